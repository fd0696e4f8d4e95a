/-
  Program's code interpreted over typed values; printed texts; plain laws. No conditions.
-/
import Derived.Test.YtnemiodjnhfejaaGreatPc
import Derived.Test.YtnemiodjnhfejaaGreatLTd
import Derived.Test.YtnemiodjnhfejaaGreatLTh
set_option linter.unusedVariables false
set_option maxRecDepth 100000
namespace Go.PI.G
noncomputable section
open Go Go.PI Go.Proofs
open Go.Code (pl pr)
def j84 (d:Int) (b:Bool->Res):Res:=bif decide (d>=0) then b (decide (d<=400)) else b false
def jdd:Sig Unit:=sg [.look tI false] [false] [(tI,none)] [] λd f k=>j84 d.1 (λb=>k [wB b] [] [])
theorem jne:SO 179 jdd:=fK (np:=0) Zas [] oN false Tryz.func179 λ_ _ _ _=>by kernel_rfl
theorem jaS:FS [(154,j1e),(179,jdd)]:=(Za6 j6s (Za6 jne Zas))
def j79 (l:List (qB×Int)) (i:Int) (s:qB×Int) (b:Bool->Res):Res:=j0m s.1 λr=>bif !r then b true else bif decide (i>0) then bif inb (Z9K (i-1)) (List.length l) then bif sGe (nth (eS,0) l (Z9K (i-1))).1 s.1 then b true else j84 s.2 λd=>b (!d) else none else j84 s.2 λf=>b (!f)
def j9u:Z1d Unit:=Nd 41 41 [.R 0 y23 .S,.I 3,.t 4 (pB 4),.R 5 y23 .S,.I 6,.I 7] [(4,y22,[])] λb g f=>j79 b.1 b.2.1 g.1.2 (λd=>f .normal [(0,v1 y23 b.1 .S),(5,v1 y23 b.2.2.1 .S),(6,vI b.2.2.2.1),(7,vI b.2.2.2.2.1),(36,vB d)] [])
theorem jjh:CN 0 3378 Tryz.f120 j9u:=nK jaS [] oN ([0,5,6,7,36],[]) [] ([],[]) λ_ _ _=>by delta j79 j1e jdd;refine gz j0m λ_ b=>gz j84 λ_ d=> ?_;rewrite [<-b,<-d];kernel_rfl
def j2T (l:List (qB×Int)) (d:List (qB×Int)) (h:Int) (b:Int) (rec:Int->Res) (f:Unit->Res) (g:Unit->Res):Res:=bif decide (b<h) then bif inb b (List.length d) then j79 l b (nth (eS,0) d b) λt=>bif t then g () else rec (Z9K (b+1)) else none else f ()
def j8m (l:List (qB×Int)) (b:List (qB×Int)) (d:Int):Int->(Int->Res)->((Unit->Res)×(Unit->Res))->Res:=λv rec q=>j2T l b d v (λf=>rec (f)) q.1 q.2
def je2 (l:List (qB×Int)) (f:List (qB×Int)) (g:Int) (n:Nat) (h:Int) (b:Unit->Res) (d:Unit->Res):Res:=Z1f (j8m l f g) n (h) (b,d)
def jds:Z1d Unit:=NdL 41 41 [.R 0 y23 .S,.R 5 y23 .S,.I 6,.I 7] [] (λb d=>(b.2.2.2.1)) (λb v=>(b.1,b.2.1,b.2.2.1,v,())) (λd v=>()) (λb d=>j8m b.1 b.2.1 b.2.2.1) λb d f=>((λ_=>f (.exit 0) [(0,v1 y23 b.1 .S)] []),(λ_=>f .ret [(2,vB false)] []))
theorem jjg:CN 0 26 Tryz.f120 jds:=lK jaS [j9u] (oI 114 0 @jjh oN) ([],[]) [(0,[0],[])] ([2],[]) λ_ _ _ _ _=>by kernel_rfl
def j7C (l:List (qB×Int)) (b:Bool->Res):Res:=je2 l l (nI (List.length l)) Z1c 0 (λ_=>b (decide ((nI (List.length l))<=8))) (λ_=>b false)
def jbf:Sig Unit:=sg [.look y23 false] [false] [(y23,none)] [] λd f k=>j7C d.1 (λb=>k [wB b] [] [])
theorem jkR:SO 120 jbf:=fK (np:=0) jaS [j9u,jds] (oI 26 1 @jjg oN) false Tryz.func120 λ_ _ _ _=>by kernel_rfl
theorem jeL:FS [(160,j1c),(163,j0A)]:=(Za6 j6r (Za6 j1b Zas))
def j1I (l:List (qB×Int)) (d:List (qB×Int)) (i:Int) (b:Int) (rec:Int->Res) (g:Unit->Res) (f:Unit->Res):Res:=bif decide (b<i) then bif inb b (List.length d) then j0h (nth (eS,0) d b).1 λr=>bif !r then f () else j09 (nth (eS,0) d b).2 0 400 λh=>bif !h then f () else bif decide (b>0) then bif inb (Z9K (b-1)) (List.length l) then bif sGe (nth (eS,0) l (Z9K (b-1))).1 (nth (eS,0) d b).1 then f () else rec (Z9K (b+1)) else none else rec (Z9K (b+1)) else none else g ()
def j4U (l:List (qB×Int)) (b:List (qB×Int)) (d:Int):Int->(Int->Res)->((Unit->Res)×(Unit->Res))->Res:=λv rec q=>j1I l b d v (λf=>rec (f)) q.1 q.2
def jdO (l:List (qB×Int)) (f:List (qB×Int)) (g:Int) (n:Nat) (h:Int) (b:Unit->Res) (d:Unit->Res):Res:=Z1f (j4U l f g) n (h) (b,d)
def jdl:Z1d Unit:=NdL 41 41 [.R 0 y23 .S,.R 5 y23 .S,.I 6,.I 7] [] (λb d=>(b.2.2.2.1)) (λb v=>(b.1,b.2.1,b.2.2.1,v,())) (λd v=>()) (λb d=>j4U b.1 b.2.1 b.2.2.1) λb d f=>((λ_=>f (.exit 0) [(0,v1 y23 b.1 .S)] []),(λ_=>f .ret [(2,vB false)] []))
theorem jiV:CN 0 26 Tryz.f123 jdl:=lK jeL [] oN ([],[]) [(0,[0],[])] ([2],[]) λ_ _ _ _ _=>by delta j4U j1I j1c j0A;refine gz j0h λ_ b=>gz j09 λ_ d=> ?_;rewrite [<-b,<-d];kernel_rfl
def j7k (l:List (qB×Int)) (b:Bool->Res):Res:=jdO l l (nI (List.length l)) Z1c 0 (λ_=>b (decide ((nI (List.length l))<=8))) (λ_=>b false)
def jba:Sig Unit:=sg [.look y23 false] [false] [(y23,none)] [] λd f k=>j7k d.1 (λb=>k [wB b] [] [])
theorem jkE:SO 123 jba:=fK (np:=0) jeL [jdl] (oI 26 0 @jiV oN) false Tryz.func123 λ_ _ _ _=>by kernel_rfl
end
end Go.PI.G
namespace Go.PI.G
noncomputable section
open Go Go.PI Go.Proofs
open Go.Code (pl pr)
def j2X (g:Int) (f:List Int) (h:Int) (d:List Int) (b:Int) (rec:(List Int)->Int->Res) (i:(List Int)->Res):Res:=bif decide (b<h) then bif inb b (List.length f) then bif decide ((nth 0 f b)>g) then bif lim ((List.length d)+1) then rec (d++[nth 0 f b]) (Z9K (b+1)) else none else rec d (Z9K (b+1)) else none else i d
def j51 (b:Int) (f:List Int) (g:Int):((List Int)×Int)->((List Int)×Int->Res)->(((List Int)->Res))->Res:=λv rec q=>j2X b f g v.1 v.2 (λd h=>rec (d,h)) q
def jap (b:Int) (f:List Int) (g:Int) (n:Nat) (d:List Int) (h:Int) (i:(List Int)->Res):Res:=Z1f (j51 b f g) n (d,h) (i)
def j9w:Z1d Unit:=NdL 25 25 [.I 1,.R 5 y21 .O,.R 10 y21 .O,.I 11,.I 12] [] (λb f=>(b.2.1,b.2.2.2.2.1)) (λb v=>(b.1,v.1,b.2.2.1,b.2.2.2.1,v.2,())) (λf v=>()) (λb f=>j51 b.1 b.2.2.1 b.2.2.2.1) λb f g=>((λd=>g (.exit 0) [(5,v1 y21 d .O)] []))
theorem jjm:CN 0 58 Tryz.f42 j9w:=lK (Za6 jf1 Zas) [] oN ([],[]) [(0,[5],[])] ([],[]) λ_ _ _ _ _=>by kernel_rfl
def j5V (l:List qP) (b:Int) (f:(List Int)->Res):Res:=j5N l λr=>jap b r (nI (List.length r)) Z1c [] 0 λd=>f d
def jfu:Sig Unit:=sg [.borrow y20 false,.borrow tI false] [false] [(y20,none),(tI,none)] [] λb f k=>j5V b.1 b.2.1 (λd=>k [w1 y21 d .O] [] [])
theorem jkT:SO 42 jfu:=fK (np:=0) (Za6 jf1 Zas) [j9w] (oI 58 0 @jjm oN) false Tryz.func42 λ_ _ _ _=>by delta j5V jfr j9w jap;refine gz j5N λ_ b=>gz j51 λ_ d=> ?_;rewrite [<-b,<-d];kernel_rfl
def j6L (l:List qP) (b:Int) (d:Int->Res):Res:=j3a l λr=>bif !r then d (-1) else j5V l b λf=>d (nI (List.length f))
def jbZ:Sig Unit:=sg [.look y20 false,.look tI false] [false] [(y20,none),(tI,none)] [] λb f k=>j6L b.1 b.2.1 (λd=>k [wI d] [] [])
theorem jmk:SO 33 jbZ:=fK (np:=0) (Za6 jkT (Za6 j9K Zas)) [] oN false Tryz.func33 λ_ _ _ _=>by delta j6L j7w jfu;refine gz j3a λ_ b=>gz j5V λ_ d=> ?_;rewrite [<-b,<-d];kernel_rfl
def j2I (g:Int) (f:List Int) (h:Int) (d:List Int) (b:Int) (rec:(List Int)->Int->Res) (i:(List Int)->Res):Res:=bif decide (b<h) then bif inb b (List.length f) then bif decide ((nth 0 f b)>g) then bif lim ((List.length d)+1) then rec (d++[nth 0 f b]) (Z9K (b+1)) else none else rec d (Z9K (b+1)) else none else i d
def j4W (b:Int) (f:List Int) (g:Int):((List Int)×Int)->((List Int)×Int->Res)->(((List Int)->Res))->Res:=λv rec q=>j2I b f g v.1 v.2 (λd h=>rec (d,h)) q
def j9T (b:Int) (f:List Int) (g:Int) (n:Nat) (d:List Int) (h:Int) (i:(List Int)->Res):Res:=Z1f (j4W b f g) n (d,h) (i)
def j9n:Z1d Unit:=NdL 25 25 [.I 1,.R 5 y21 .O,.R 10 y21 .O,.I 11,.I 12] [] (λb f=>(b.2.1,b.2.2.2.2.1)) (λb v=>(b.1,v.1,b.2.2.1,b.2.2.2.1,v.2,())) (λf v=>()) (λb f=>j4W b.1 b.2.2.1 b.2.2.2.1) λb f g=>((λd=>g (.exit 0) [(5,v1 y21 d .O)] []))
theorem jiZ:CN 0 58 Tryz.f43 j9n:=lK (Za6 jeR Zas) [] oN ([],[]) [(0,[5],[])] ([],[]) λ_ _ _ _ _=>by kernel_rfl
def j5n (l:List qP) (b:Int) (f:(List Int)->Res):Res:=j5f l λr=>j9T b r (nI (List.length r)) Z1c [] 0 λd=>f d
def jfm:Sig Unit:=sg [.borrow y20 false,.borrow tI false] [false] [(y20,none),(tI,none)] [] λb f k=>j5n b.1 b.2.1 (λd=>k [w1 y21 d .O] [] [])
theorem jkG:SO 43 jfm:=fK (np:=0) (Za6 jeR Zas) [j9n] (oI 58 0 @jiZ oN) false Tryz.func43 λ_ _ _ _=>by delta j5n jfk j9n j9T;refine gz j5f λ_ b=>gz j4W λ_ d=> ?_;rewrite [<-b,<-d];kernel_rfl
def j6D (l:List qP) (b:Int) (d:Int->Res):Res:=j35 l λr=>bif !r then d (-1) else j5n l b λf=>d (nI (List.length f))
def jbU:Sig Unit:=sg [.look y20 false,.look tI false] [false] [(y20,none),(tI,none)] [] λb f k=>j6D b.1 b.2.1 (λd=>k [wI d] [] [])
theorem jm6:SO 34 jbU:=fK (np:=0) (Za6 jkG (Za6 j9I Zas)) [] oN false Tryz.func34 λ_ _ _ _=>by delta j6D j7s jfm;refine gz j35 λ_ b=>gz j5n λ_ d=> ?_;rewrite [<-b,<-d];kernel_rfl
theorem jeO:FS [(33,jbZ),(103,j7w),(120,jbf),(121,j24 j5Q)]:=(Za6 jmk (Za6 j9K (Za6 jkR (Za6 jkP Zas))))
def j1K (l:List qP) (d:List (qB×Int)) (h:Int) (f:qB) (b:Int) (rec:qB->Int->Res) (i:qB->Res):Res:=bif decide (b<h) then bif inb b (List.length d) then bif lim ((ByteArray.size f)+(ByteArray.size (nth (eS,0) d b).1)) then bif lim ((ByteArray.size (f++(nth (eS,0) d b).1))+1) then j6L l (nth (eS,0) d b).2 λr=>j5Q r λg=>bif lim ((ByteArray.size ((f++(nth (eS,0) d b).1)++jeo))+(ByteArray.size g)) then bif lim ((ByteArray.size (((f++(nth (eS,0) d b).1)++jeo)++g))+1) then rec ((((f++(nth (eS,0) d b).1)++jeo)++g)++jn3) (Z9K (b+1)) else none else none else none else none else none else i f
def j2Q (l:List qP) (d:List (qB×Int)) (f:Int):(qB×Int)->(qB×Int->Res)->((qB->Res))->Res:=λv rec q=>j1K l d f v.1 v.2 (λb g=>rec (b,g)) q
def jam (l:List qP) (d:List (qB×Int)) (f:Int) (n:Nat) (b:qB) (g:Int) (h:qB->Res):Res:=Z1f (j2Q l d f) n (b,g) (h)
def j9s:Z1d Unit:=NdL 37 37 [.R 0 y20 .S,.S 5,.R 17 y23 .S,.I 18,.I 19] [] (λb f=>(b.2.1,b.2.2.2.2.1)) (λb v=>(b.1,v.1,b.2.2.1,b.2.2.2.1,v.2,())) (λf v=>()) (λb f=>j2Q b.1 b.2.2.1 b.2.2.2.1) λb f g=>((λd=>g (.exit 0) [(5,vS d)] []))
theorem jjb:CN 0 122 Tryz.f55 j9s:=lK jeO [] oN ([],[]) [(0,[5],[])] ([],[]) λ_ _ _ _ _=>by delta j2Q j1K jbZ j24;refine gz j6L λ_ b=>gz j5Q λ_ d=> ?_;rewrite [<-b,<-d];kernel_rfl
def j5P (l:List qP) (b:List (qB×Int)) (d:qB->Res):Res:=j3a l λr=>bif !r then d eS else j7C b λg=>bif !g then d eS else jam l b (nI (List.length b)) Z1c eS 0 λf=>d f
def jfs:Sig Unit:=sg [.look y20 false,.look y23 false] [false] [(y20,none),(y23,none)] [] λb f k=>j5P b.1 b.2.1 (λd=>k [wS d] [] [])
theorem jkO:SO 55 jfs:=fK (np:=0) jeO [j9s] (oI 122 0 @jjb oN) false Tryz.func55 λ_ _ _ _=>by delta j5P j7w jbf j9s jam;refine gz j3a λ_ b=>gz j7C λ_ d=>gz j2Q λ_ f=> ?_;rewrite [<-b,<-d,<-f];kernel_rfl
theorem jeJ:FS [(34,jbU),(104,j7s),(123,jba),(124,j0J j5i)]:=(Za6 jm6 (Za6 j9I (Za6 jkE (Za6 jkC Zas))))
def j1G (l:List qP) (d:List (qB×Int)) (h:Int) (f:qB) (b:Int) (rec:qB->Int->Res) (i:qB->Res):Res:=bif decide (b<h) then bif inb b (List.length d) then bif lim ((ByteArray.size f)+(ByteArray.size (nth (eS,0) d b).1)) then bif lim ((ByteArray.size (f++(nth (eS,0) d b).1))+1) then j6D l (nth (eS,0) d b).2 λr=>j5i r λg=>bif lim ((ByteArray.size ((f++(nth (eS,0) d b).1)++jeo))+(ByteArray.size g)) then bif lim ((ByteArray.size (((f++(nth (eS,0) d b).1)++jeo)++g))+1) then rec ((((f++(nth (eS,0) d b).1)++jeo)++g)++jn3) (Z9K (b+1)) else none else none else none else none else none else i f
def j2C (l:List qP) (d:List (qB×Int)) (f:Int):(qB×Int)->(qB×Int->Res)->((qB->Res))->Res:=λv rec q=>j1G l d f v.1 v.2 (λb g=>rec (b,g)) q
def j9S (l:List qP) (d:List (qB×Int)) (f:Int) (n:Nat) (b:qB) (g:Int) (h:qB->Res):Res:=Z1f (j2C l d f) n (b,g) (h)
def j9j:Z1d Unit:=NdL 36 36 [.R 0 y20 .S,.S 5,.R 16 y23 .S,.I 17,.I 18] [] (λb f=>(b.2.1,b.2.2.2.2.1)) (λb v=>(b.1,v.1,b.2.2.1,b.2.2.2.1,v.2,())) (λf v=>()) (λb f=>j2C b.1 b.2.2.1 b.2.2.2.1) λb f g=>((λd=>g (.exit 0) [(5,vS d)] []))
theorem jiQ:CN 0 122 Tryz.f57 j9j:=lK jeJ [] oN ([],[]) [(0,[5],[])] ([],[]) λ_ _ _ _ _=>by delta j2C j1G jbU j0J;refine gz j6D λ_ b=>gz j5i λ_ d=> ?_;rewrite [<-b,<-d];kernel_rfl
def j5h (l:List qP) (b:List (qB×Int)) (d:qB->Res):Res:=j35 l λr=>bif !r then d eS else j7k b λg=>bif !g then d eS else j9S l b (nI (List.length b)) Z1c eS 0 λf=>d f
def jfl:Sig Unit:=sg [.look y20 false,.look y23 false] [false] [(y20,none),(y23,none)] [] λb f k=>j5h b.1 b.2.1 (λd=>k [wS d] [] [])
theorem jkB:SO 57 jfl:=fK (np:=0) jeJ [j9j] (oI 122 0 @jiQ oN) false Tryz.func57 λ_ _ _ _=>by delta j5h j7s jba j9j j9S;refine gz j35 λ_ b=>gz j7k λ_ d=>gz j2C λ_ f=> ?_;rewrite [<-b,<-d,<-f];kernel_rfl
end
end Go.PI.G
namespace Go.PI.G
noncomputable section
open Go Go.PI Go.Proofs
open Go.Code (pl pr)
def ja3 (a:Int×Int×qB) (left:Int) (b:Int->Res):Res:=bif decide ((Z9K (left-(nI (ByteArray.size a.2.2))))<0) then b (-1) else b (Z9K (left-(nI (ByteArray.size a.2.2))))
def jnX:Sig Unit:=sg [.look y2 true,.look tI false] [false] [(y2,none),(tI,none)] [] λb f k=>ja3 b.1 b.2.1 (λd=>k [wI d] [] [])
theorem jcH:SO 105 jnX:=fK (np:=0) Zas [] oN false Tryz.func105 λ_ _ _ _=>by kernel_rfl
def ja5 (a:Int×Int×qB) (b:qV->Res):Res:=b (a.1,a.2.1,a.2.2)
def jo0:Sig Unit:=sg [.look y2 true] [true] [(y2,none)] [] λd f k=>ja5 d.1 (λb=>k [⟨y2,true,b,[]⟩] [] [])
theorem jcI:SO 106 jo0:=fK (np:=0) Zas [] oN false Tryz.func106 λ_ _ _ _=>by kernel_rfl
def ja0 (a:Int×Int×qB) (b:Int×Int×qB) (d:Bool->Res):Res:=bif (a.1 != b.1) then d false else bif (a.2.1 != b.2.1) then d false else bif sNe a.2.2 b.2.2 then d false else d true
def jnU:Sig Unit:=sg [.look y2 true,.look y2 true] [false] [(y2,none),(y2,none)] [] λb f k=>ja0 b.1 b.2.1 (λd=>k [wB d] [] [])
theorem jcG:SO 107 jnU:=fK (np:=0) Zas [] oN false Tryz.func107 λ_ _ _ _=>by kernel_rfl
end
end Go.PI.G
namespace Go.PI.G
noncomputable section
open Go Go.PI Go.Proofs
open Go.Code (pl pr)
def jco (a:qB×Int×Bool×Bool×Int×Int×qB) (left:Int) (b:Int->Res):Res:=bif decide ((Z9K (left-(nI (ByteArray.size a.1))))<0) then b (-1) else ja3 a.2.2.2.2 (Z9K (left-(nI (ByteArray.size a.1)))) λr=>bif decide (r<0) then b (-1) else b r
def jnV:Sig Unit:=sg [.look y7 true,.look tI false] [false] [(y7,none),(tI,none)] [] λb f k=>jco b.1 b.2.1 (λd=>k [wI d] [] [])
theorem jha:SO 285 jnV:=fK (np:=0) (Za6 jcH Zas) [] oN false Tryz.func285 λ_ _ _ _=>by kernel_rfl
def jcq (a:qB×Int×Bool×Bool×Int×Int×qB) (b:qC->Res):Res:=ja5 a.2.2.2.2 λr=>b (a.1,a.2.1,a.2.2.1,a.2.2.2.1,r)
def jnY:Sig Unit:=sg [.look y7 true] [true] [(y7,none)] [] λd f k=>jcq d.1 (λb=>k [⟨y7,true,b,[]⟩] [] [])
theorem jhc:SO 292 jnY:=fK (np:=0) (Za6 jcI Zas) [] oN false Tryz.func292 λ_ _ _ _=>by kernel_rfl
def jcm (a:qB×Int×Bool×Bool×Int×Int×qB) (b:qB×Int×Bool×Bool×Int×Int×qB) (d:Bool->Res):Res:=bif sNe a.1 b.1 then d false else bif (a.2.1 != b.2.1) then d false else bif !(a.2.2.1==b.2.2.1) then d false else bif !(a.2.2.2.1==b.2.2.2.1) then d false else ja0 a.2.2.2.2 b.2.2.2.2 λr=>bif !r then d false else d true
def jnS:Sig Unit:=sg [.look y7 true,.look y7 true] [false] [(y7,none),(y7,none)] [] λb f k=>jcm b.1 b.2.1 (λd=>k [wB d] [] [])
theorem jh8:SO 302 jnS:=fK (np:=0) (Za6 jcG Zas) [] oN false Tryz.func302 λ_ _ _ _=>by kernel_rfl
end
end Go.PI.G
namespace Go.PI.G
open Go Go.PI Go.Proofs
open Go.Code (pl pr)
end Go.PI.G
namespace Go.PI.G
noncomputable section
open Go Go.PI Go.Proofs
open Go.Code (pl pr)
def j3E (a:List qC) (left:Int) (i:Int) (rec:Int->Int->Res) (b:Int->Res) (d:Unit->Res):Res:=bif decide (i<(nI (List.length a))) then bif inb i (List.length a) then jco (nth (eS,0,false,false,0,0,eS) a i) left λr=>bif decide (r<0) then d () else rec r (Z9K (i+1)) else none else b left
def jcY (a:List qC):(Int×Int)->(Int×Int->Res)->((Int->Res)×(Unit->Res))->Res:=λv rec q=>j3E a v.1 v.2 (λleft i=>rec (left,i)) q.1 q.2
def jb2 (a:List qC) (n:Nat) (left:Int) (i:Int) (b:Int->Res) (d:Unit->Res):Res:=Z1f (jcY a) n (left,i) (b,d)
def jec:Z1d Unit:=NdL 27 27 [.R 0 y8 .S,.I 1,.I 5] [] (λd f=>(d.2.1,d.2.2.1)) (λd v=>(d.1,v.1,v.2,())) (λf v=>()) (λd f=>jcY d.1) λd f g=>((λb=>g (.exit 0) [(1,vI b)] []),(λ_=>g .ret [(4,vI (-1))] []))
theorem jk7:CN 0 122 Tryz.f241 jec:=lK (Za6 jha Zas) [] oN ([],[]) [(0,[1],[])] ([4],[]) λ_ _ _ _ _=>by kernel_rfl
def j8C (a:List qC) (left:Int) (d:Int->Res):Res:=bif decide ((Z9K (left-(nI (List.length a))))<0) then d (-1) else jb2 a Z1c (Z9K (left-(nI (List.length a)))) 0 (λb=>d b) (λ_=>d (-1))
def jgF:Sig Unit:=sg [.look y8 false,.look tI false] [false] [(y8,none),(tI,none)] [] λb f k=>j8C b.1 b.2.1 (λd=>k [wI d] [] [])
theorem jme:SO 241 jgF:=fK (np:=0) (Za6 jha Zas) [jec] (oI 122 0 @jk7 oN) false Tryz.func241 λ_ _ _ _=>by kernel_rfl
def j3H (a:List qC) (b:List qC) (i:Int) (rec:qE->Int->Res) (d:qE->Res):Res:=bif decide (i<(nI (List.length a))) then bif inb i (List.length a) then jcq (nth (eS,0,false,false,0,0,eS) a i) λr=>bif inb i (List.length b) then rec (upd b i r) (Z9K (i+1)) else none else none else d b
def j92 (a:List qC):(qE×Int)->(qE×Int->Res)->((qE->Res))->Res:=λv rec q=>j3H a v.1 v.2 (λb i=>rec (b,i)) q
def jl4 (a:List qC) (n:Nat) (b:List qC) (i:Int) (d:qE->Res):Res:=Z1f (j92 a) n (b,i) (d)
def jef:Z1d Unit:=NdL 23 23 [.R 0 y8 .S,.R 3 y8 .O,.I 4] [] (λb f=>(b.2.1,b.2.2.1)) (λb v=>(b.1,v.1,v.2,())) (λf v=>()) (λb f=>j92 b.1) λb f g=>((λd=>g (.exit 0) [(3,v1 y8 d .O)] []))
theorem jka:CN 0 58 Tryz.f249 jef:=lK (Za6 jhc Zas) [] oN ([],[]) [(0,[3],[])] ([],[]) λ_ _ _ _ _=>by kernel_rfl
def j8F (a:List qC) (d:qE->Res):Res:=bif Z9I (nI (List.length a)) (nI (List.length a)) then jl4 a Z1c (Z9h (nI (List.length a)) (eS,0,false,false,0,0,eS)) 0 λb=>d b else none
def jgI:Sig Unit:=sg [.borrow y8 false] [false] [(y8,none)] [] λd f k=>j8F d.1 (λb=>k [w1 y8 b .O] [] [])
theorem jmh:SO 249 jgI:=fK (np:=0) (Za6 jhc Zas) [jef] (oI 58 0 @jka oN) false Tryz.func249 λ_ _ _ _=>by kernel_rfl
def j3B (a:List qC) (b:List qC) (i:Int) (rec:Int->Res) (d:Unit->Res) (f:Unit->Res):Res:=bif decide (i<(nI (List.length a))) then bif inb i (List.length a) then bif inb i (List.length b) then jcm (nth (eS,0,false,false,0,0,eS) a i) (nth (eS,0,false,false,0,0,eS) b i) λr=>bif !r then f () else rec (Z9K (i+1)) else none else none else d ()
def jcV (a:List qC) (b:List qC):Int->(Int->Res)->((Unit->Res)×(Unit->Res))->Res:=λv rec q=>j3B a b v (λi=>rec (i)) q.1 q.2
def jff (a:List qC) (b:List qC) (n:Nat) (i:Int) (d:Unit->Res) (f:Unit->Res):Res:=Z1f (jcV a b) n (i) (d,f)
def je9:Z1d Unit:=NdL 27 27 [.R 0 y8 .S,.R 1 y8 .S,.I 5] [] (λb d=>(b.2.2.1)) (λb v=>(b.1,b.2.1,v,())) (λd v=>()) (λb d=>jcV b.1 b.2.1) λb d f=>((λ_=>f (.exit 0) [] []),(λ_=>f .ret [(4,vB false)] []))
theorem jk4:CN 0 58 Tryz.f258 je9:=lK (Za6 jh8 Zas) [] oN ([],[]) [(0,[],[])] ([4],[]) λ_ _ _ _ _=>by kernel_rfl
def j8z (a:List qC) (b:List qC) (d:Bool->Res):Res:=bif ((nI (List.length a)) != (nI (List.length b))) then d false else jff a b Z1c 0 (λ_=>d true) (λ_=>d false)
def jgC:Sig Unit:=sg [.look y8 false,.look y8 false] [false] [(y8,none),(y8,none)] [] λb f k=>j8z b.1 b.2.1 (λd=>k [wB d] [] [])
theorem jmb:SO 258 jgC:=fK (np:=0) (Za6 jh8 Zas) [je9] (oI 58 0 @jk4 oN) false Tryz.func258 λ_ _ _ _=>by kernel_rfl
end
end Go.PI.G
namespace Go.PI.G
noncomputable section
open Go Go.PI Go.Proofs
open Go.Code (pl pr)
def j1W (a:qL) (left:Int) (i:Int) (rec:Int->Int->Res) (b:Int->Res) (d:Unit->Res):Res:=bif decide (i<(nI (List.length a))) then bif inb i (List.length a) then bif decide ((Z9K (left-(nI (ByteArray.size (nth eS a i)))))<0) then d () else rec (Z9K (left-(nI (ByteArray.size (nth eS a i))))) (Z9K (i+1)) else none else b left
def jaL (a:qL):(Int×Int)->(Int×Int->Res)->((Int->Res)×(Unit->Res))->Res:=λv rec q=>j1W a v.1 v.2 (λleft i=>rec (left,i)) q.1 q.2
def j8g (a:qL) (n:Nat) (left:Int) (i:Int) (b:Int->Res) (d:Unit->Res):Res:=Z1f (jaL a) n (left,i) (b,d)
def jbL:Z1d Unit:=NdL 28 28 [.R 0 y0 .S,.I 1,.I 5] [] (λd f=>(d.2.1,d.2.2.1)) (λd v=>(d.1,v.1,v.2,())) (λf v=>()) (λd f=>jaL d.1) λd f g=>((λb=>g (.exit 0) [(1,vI b)] []),(λ_=>g .ret [(4,vI (-1))] []))
theorem jhu:CN 0 122 Tryz.f82 jbL:=lK Zas [] oN ([],[]) [(0,[1],[])] ([4],[]) λ_ _ _ _ _=>by kernel_rfl
def j5s (a:qL) (left:Int) (d:Int->Res):Res:=bif decide ((Z9K (left-(nI (List.length a))))<0) then d (-1) else j8g a Z1c (Z9K (left-(nI (List.length a)))) 0 (λb=>d b) (λ_=>d (-1))
def jd8:Sig Unit:=sg [.look y0 false,.look tI false] [false] [(y0,none),(tI,none)] [] λb f k=>j5s b.1 b.2.1 (λd=>k [wI d] [] [])
theorem jiy:SO 82 jd8:=fK (np:=0) Zas [jbL] (oI 122 0 @jhu oN) false Tryz.func82 λ_ _ _ _=>by kernel_rfl
def j1X (a:qL) (b:qL) (i:Int) (rec:qL->Int->Res) (d:qL->Res):Res:=bif decide (i<(nI (List.length a))) then bif inb i (List.length a) then bif inb i (List.length b) then rec (upd b i (nth eS a i)) (Z9K (i+1)) else none else none else d b
def j6Q (a:qL):(qL×Int)->(qL×Int->Res)->((qL->Res))->Res:=λv rec q=>j1X a v.1 v.2 (λb i=>rec (b,i)) q
def ji4 (a:qL) (n:Nat) (b:qL) (i:Int) (d:qL->Res):Res:=Z1f (j6Q a) n (b,i) (d)
def jbM:Z1d Unit:=NdL 22 22 [.R 0 y0 .S,.R 3 y0 .O,.I 4] [] (λb f=>(b.2.1,b.2.2.1)) (λb v=>(b.1,v.1,v.2,())) (λf v=>()) (λb f=>j6Q b.1) λb f g=>((λd=>g (.exit 0) [(3,v1 y0 d .O)] []))
theorem jhv:CN 0 58 Tryz.f88 jbM:=lK Zas [] oN ([],[]) [(0,[3],[])] ([],[]) λ_ _ _ _ _=>by kernel_rfl
def j5t (a:qL) (d:qL->Res):Res:=bif Z9I (nI (List.length a)) (nI (List.length a)) then ji4 a Z1c (Z9h (nI (List.length a)) eS) 0 λb=>d b else none
def jd9:Sig Unit:=sg [.borrow y0 false] [false] [(y0,none)] [] λd f k=>j5t d.1 (λb=>k [w1 y0 b .O] [] [])
theorem jiz:SO 88 jd9:=fK (np:=0) Zas [jbM] (oI 58 0 @jhv oN) false Tryz.func88 λ_ _ _ _=>by kernel_rfl
def j1V (a:qL) (b:qL) (i:Int) (rec:Int->Res) (d:Unit->Res) (f:Unit->Res):Res:=bif decide (i<(nI (List.length a))) then bif inb i (List.length a) then bif inb i (List.length b) then bif sNe (nth eS a i) (nth eS b i) then f () else rec (Z9K (i+1)) else none else none else d ()
def jaK (a:qL) (b:qL):Int->(Int->Res)->((Unit->Res)×(Unit->Res))->Res:=λv rec q=>j1V a b v (λi=>rec (i)) q.1 q.2
def jch (a:qL) (b:qL) (n:Nat) (i:Int) (d:Unit->Res) (f:Unit->Res):Res:=Z1f (jaK a b) n (i) (d,f)
def jbK:Z1d Unit:=NdL 26 26 [.R 0 y0 .S,.R 1 y0 .S,.I 5] [] (λb d=>(b.2.2.1)) (λb v=>(b.1,b.2.1,v,())) (λd v=>()) (λb d=>jaK b.1 b.2.1) λb d f=>((λ_=>f (.exit 0) [] []),(λ_=>f .ret [(4,vB false)] []))
theorem jht:CN 0 58 Tryz.f97 jbK:=lK Zas [] oN ([],[]) [(0,[],[])] ([4],[]) λ_ _ _ _ _=>by kernel_rfl
def j5r (a:qL) (b:qL) (d:Bool->Res):Res:=bif ((nI (List.length a)) != (nI (List.length b))) then d false else jch a b Z1c 0 (λ_=>d true) (λ_=>d false)
def jd7:Sig Unit:=sg [.look y0 false,.look y0 false] [false] [(y0,none),(y0,none)] [] λb f k=>j5r b.1 b.2.1 (λd=>k [wB d] [] [])
theorem jix:SO 97 jd7:=fK (np:=0) Zas [jbK] (oI 58 0 @jht oN) false Tryz.func97 λ_ _ _ _=>by kernel_rfl
end
end Go.PI.G
namespace Go.PI.G
noncomputable section
open Go Go.PI Go.Proofs
open Go.Code (pl pr)
def j7W (a:qG) (left:Int) (b:Int->Res):Res:=bif decide ((Z9K (left-(nI (ByteArray.size a.2.1))))<0) then b (-1) else j8C a.2.2.1 (Z9K (left-(nI (ByteArray.size a.2.1)))) λr=>bif decide (r<0) then b (-1) else j5s a.2.2.2.1 r λd=>bif decide (d<0) then b (-1) else bif decide ((Z9K (d-(nI (ByteArray.size a.2.2.2.2.1))))<0) then b (-1) else bif decide ((Z9K ((Z9K (d-(nI (ByteArray.size a.2.2.2.2.1))))-(nI (ByteArray.size a.2.2.2.2.2))))<0) then b (-1) else b (Z9K ((Z9K (d-(nI (ByteArray.size a.2.2.2.2.1))))-(nI (ByteArray.size a.2.2.2.2.2))))
def jhJ:Sig Unit:=sg [.look y13 true,.look tI false] [false] [(y13,none),(tI,none)] [] λb f k=>j7W b.1 b.2.1 (λd=>k [wI d] [] [])
theorem jn9:SO 185 jhJ:=fK (np:=0) (Za6 jiy (Za6 jme Zas)) [] oN false Tryz.func185 λ_ _ _ _=>by delta j7W jgF jd8;refine gz j8C λ_ b=>gz j5s λ_ d=> ?_;rewrite [<-b,<-d];kernel_rfl
def j7X (a:qG) (b:qG->Res):Res:=j8F a.2.2.1 λr=>j5t a.2.2.2.1 λd=>b (a.1,a.2.1,r,d,a.2.2.2.2.1,a.2.2.2.2.2)
def jhL:Sig Unit:=sg [.borrow y13 true] [true] [(y13,none)] [] λd f k=>j7X d.1 (λb=>k [⟨y13,true,b,[.O,.O]⟩] [] [])
theorem jnb:SO 194 jhL:=fK (np:=0) (Za6 jiz (Za6 jmh Zas)) [] oN false Tryz.func194 λ_ _ _ _=>by delta j7X jgI jd9;refine gz j8F λ_ b=>gz j5t λ_ d=> ?_;rewrite [<-b,<-d];kernel_rfl
def j7V (a:qG) (b:qG) (d:Bool->Res):Res:=bif (a.1 != b.1) then d false else bif sNe a.2.1 b.2.1 then d false else j8z a.2.2.1 b.2.2.1 λr=>bif !r then d false else j5r a.2.2.2.1 b.2.2.2.1 λf=>bif !f then d false else bif sNe a.2.2.2.2.1 b.2.2.2.2.1 then d false else bif sNe a.2.2.2.2.2 b.2.2.2.2.2 then d false else d true
def jhH:Sig Unit:=sg [.look y13 true,.look y13 true] [false] [(y13,none),(y13,none)] [] λb f k=>j7V b.1 b.2.1 (λd=>k [wB d] [] [])
theorem jn7:SO 200 jhH:=fK (np:=0) (Za6 jix (Za6 jmb Zas)) [] oN false Tryz.func200 λ_ _ _ _=>by delta j7V jgC jd7;refine gz j8z λ_ b=>gz j5r λ_ d=> ?_;rewrite [<-b,<-d];kernel_rfl
end
end Go.PI.G
namespace Go.PI.G
noncomputable section
open Go Go.PI Go.Proofs
open Go.Code (pl pr)
def j3G (a:List qV) (left:Int) (i:Int) (rec:Int->Int->Res) (b:Int->Res) (d:Unit->Res):Res:=bif decide (i<(nI (List.length a))) then bif inb i (List.length a) then ja3 (nth (0,0,eS) a i) left λr=>bif decide (r<0) then d () else rec r (Z9K (i+1)) else none else b left
def jd0 (a:List qV):(Int×Int)->(Int×Int->Res)->((Int->Res)×(Unit->Res))->Res:=λv rec q=>j3G a v.1 v.2 (λleft i=>rec (left,i)) q.1 q.2
def jb4 (a:List qV) (n:Nat) (left:Int) (i:Int) (b:Int->Res) (d:Unit->Res):Res:=Z1f (jd0 a) n (left,i) (b,d)
def jee:Z1d Unit:=NdL 27 27 [.R 0 y3 .S,.I 1,.I 5] [] (λd f=>(d.2.1,d.2.2.1)) (λd v=>(d.1,v.1,v.2,())) (λf v=>()) (λd f=>jd0 d.1) λd f g=>((λb=>g (.exit 0) [(1,vI b)] []),(λ_=>g .ret [(4,vI (-1))] []))
theorem jk9:CN 0 122 Tryz.f37 jee:=lK (Za6 jcH Zas) [] oN ([],[]) [(0,[1],[])] ([4],[]) λ_ _ _ _ _=>by kernel_rfl
def j6I (a:List qV) (left:Int) (d:Int->Res):Res:=bif decide ((Z9K (left-(nI (List.length a))))<0) then d (-1) else jb4 a Z1c (Z9K (left-(nI (List.length a)))) 0 (λb=>d b) (λ_=>d (-1))
def jgH:Sig Unit:=sg [.look y3 false,.look tI false] [false] [(y3,none),(tI,none)] [] λb f k=>j6I b.1 b.2.1 (λd=>k [wI d] [] [])
theorem jgr:SO 37 jgH:=fK (np:=0) (Za6 jcH Zas) [jee] (oI 122 0 @jk9 oN) false Tryz.func37 λ_ _ _ _=>by kernel_rfl
def j3K (a:List qV) (b:List qV) (i:Int) (rec:qW->Int->Res) (d:qW->Res):Res:=bif decide (i<(nI (List.length a))) then bif inb i (List.length a) then ja5 (nth (0,0,eS) a i) λr=>bif inb i (List.length b) then rec (upd b i r) (Z9K (i+1)) else none else none else d b
def j94 (a:List qV):(qW×Int)->(qW×Int->Res)->((qW->Res))->Res:=λv rec q=>j3K a v.1 v.2 (λb i=>rec (b,i)) q
def jl6 (a:List qV) (n:Nat) (b:List qV) (i:Int) (d:qW->Res):Res:=Z1f (j94 a) n (b,i) (d)
def jeh:Z1d Unit:=NdL 23 23 [.R 0 y3 .S,.R 3 y3 .O,.I 4] [] (λb f=>(b.2.1,b.2.2.1)) (λb v=>(b.1,v.1,v.2,())) (λf v=>()) (λb f=>j94 b.1) λb f g=>((λd=>g (.exit 0) [(3,v1 y3 d .O)] []))
theorem jkc:CN 0 58 Tryz.f39 jeh:=lK (Za6 jcI Zas) [] oN ([],[]) [(0,[3],[])] ([],[]) λ_ _ _ _ _=>by kernel_rfl
def j6J (a:List qV) (d:qW->Res):Res:=bif Z9I (nI (List.length a)) (nI (List.length a)) then jl6 a Z1c (Z9h (nI (List.length a)) (0,0,eS)) 0 λb=>d b else none
def jgK:Sig Unit:=sg [.borrow y3 false] [false] [(y3,none)] [] λd f k=>j6J d.1 (λb=>k [w1 y3 b .O] [] [])
theorem jgt:SO 39 jgK:=fK (np:=0) (Za6 jcI Zas) [jeh] (oI 58 0 @jkc oN) false Tryz.func39 λ_ _ _ _=>by kernel_rfl
def j3D (a:List qV) (b:List qV) (i:Int) (rec:Int->Res) (d:Unit->Res) (f:Unit->Res):Res:=bif decide (i<(nI (List.length a))) then bif inb i (List.length a) then bif inb i (List.length b) then ja0 (nth (0,0,eS) a i) (nth (0,0,eS) b i) λr=>bif !r then f () else rec (Z9K (i+1)) else none else none else d ()
def jcX (a:List qV) (b:List qV):Int->(Int->Res)->((Unit->Res)×(Unit->Res))->Res:=λv rec q=>j3D a b v (λi=>rec (i)) q.1 q.2
def jfh (a:List qV) (b:List qV) (n:Nat) (i:Int) (d:Unit->Res) (f:Unit->Res):Res:=Z1f (jcX a b) n (i) (d,f)
def jeb:Z1d Unit:=NdL 27 27 [.R 0 y3 .S,.R 1 y3 .S,.I 5] [] (λb d=>(b.2.2.1)) (λb v=>(b.1,b.2.1,v,())) (λd v=>()) (λb d=>jcX b.1 b.2.1) λb d f=>((λ_=>f (.exit 0) [] []),(λ_=>f .ret [(4,vB false)] []))
theorem jk6:CN 0 58 Tryz.f41 jeb:=lK (Za6 jcG Zas) [] oN ([],[]) [(0,[],[])] ([4],[]) λ_ _ _ _ _=>by kernel_rfl
def j6H (a:List qV) (b:List qV) (d:Bool->Res):Res:=bif ((nI (List.length a)) != (nI (List.length b))) then d false else jfh a b Z1c 0 (λ_=>d true) (λ_=>d false)
def jgE:Sig Unit:=sg [.look y3 false,.look y3 false] [false] [(y3,none),(y3,none)] [] λb f k=>j6H b.1 b.2.1 (λd=>k [wB d] [] [])
theorem jgp:SO 41 jgE:=fK (np:=0) (Za6 jcG Zas) [jeb] (oI 58 0 @jk6 oN) false Tryz.func41 λ_ _ _ _=>by kernel_rfl
end
end Go.PI.G
namespace Go.PI.G
noncomputable section
open Go Go.PI Go.Proofs
open Go.Code (pl pr)
def ja1 (a:List qV) (left:Int) (b:Int->Res):Res:=j6I a left λr=>bif decide (r<0) then b (-1) else b r
def jhK:Sig Unit:=sg [.look y3 true,.look tI false] [false] [(y3,none),(tI,none)] [] λb f k=>ja1 b.1 b.2.1 (λd=>k [wI d] [] [])
theorem jna:SO 184 jhK:=fK (np:=0) (Za6 jgr Zas) [] oN false Tryz.func184 λ_ _ _ _=>by kernel_rfl
def ja4 (a:List qV) (b:qW->Res):Res:=j6J a λr=>b r
def jhM:Sig Unit:=sg [.borrow y3 true] [true] [(y3,none)] [] λd f k=>ja4 d.1 (λb=>k [⟨y3,true,b,[.O]⟩] [] [])
theorem jnc:SO 193 jhM:=fK (np:=0) (Za6 jgt Zas) [] oN false Tryz.func193 λ_ _ _ _=>by kernel_rfl
def j9Z (a:List qV) (b:List qV) (d:Bool->Res):Res:=j6H a b λr=>bif !r then d false else d true
def jhI:Sig Unit:=sg [.look y3 true,.look y3 true] [false] [(y3,none),(y3,none)] [] λb f k=>j9Z b.1 b.2.1 (λd=>k [wB d] [] [])
theorem jn8:SO 50 jhI:=fK (np:=0) (Za6 jgp Zas) [] oN false Tryz.func50 λ_ _ _ _=>by kernel_rfl
end
end Go.PI.G
namespace Go.PI.G
noncomputable section
open Go Go.PI Go.Proofs
open Go.Code (pl pr)
def j8E (a:qS) (left:Int) (b:Int->Res):Res:=bif decide ((Z9K (left-(nI (ByteArray.size a.2.1))))<0) then b (-1) else j6I a.2.2.1 (Z9K (left-(nI (ByteArray.size a.2.1)))) λr=>bif decide (r<0) then b (-1) else ja1 a.2.2.2.1 r λd=>bif decide (d<0) then b (-1) else j7W a.2.2.2.2 d λf=>bif decide (f<0) then b (-1) else b f
def jmQ:Sig Unit:=sg [.look y17 true,.look tI false] [false] [(y17,none),(tI,none)] [] λb f k=>j8E b.1 b.2.1 (λd=>k [wI d] [] [])
theorem jmg:SO 132 jmQ:=fK (np:=0) (Za6 jgr (Za6 jna (Za6 jn9 Zas))) [] oN false Tryz.func132 λ_ _ _ _=>by delta j8E jgH jhK jhJ;refine gz j6I λ_ b=>gz ja1 λ_ d=>gz j7W λ_ f=> ?_;rewrite [<-b,<-d,<-f];kernel_rfl
def j8G (a:qS) (b:qS->Res):Res:=j6J a.2.2.1 λr=>ja4 a.2.2.2.1 λd=>j7X a.2.2.2.2 λf=>b (a.1,a.2.1,r,d,f)
def jmS:Sig Unit:=sg [.borrow y17 true] [true] [(y17,none)] [] λd f k=>j8G d.1 (λb=>k [⟨y17,true,b,[.O,.O,.O,.O]⟩] [] [])
theorem jmj:SO 137 jmS:=fK (np:=0) (Za6 jgt (Za6 jnc (Za6 jnb Zas))) [] oN false Tryz.func137 λ_ _ _ _=>by delta j8G jgK jhM jhL;refine gz j6J λ_ b=>gz ja4 λ_ d=>gz j7X λ_ f=> ?_;rewrite [<-b,<-d,<-f];kernel_rfl
def j8B (a:qS) (b:qS) (d:Bool->Res):Res:=bif (a.1 != b.1) then d false else bif sNe a.2.1 b.2.1 then d false else j6H a.2.2.1 b.2.2.1 λr=>bif !r then d false else j9Z a.2.2.2.1 b.2.2.2.1 λf=>bif !f then d false else j7V a.2.2.2.2 b.2.2.2.2 λg=>bif !g then d false else d true
def jmO:Sig Unit:=sg [.look y17 true,.look y17 true] [false] [(y17,none),(y17,none)] [] λb f k=>j8B b.1 b.2.1 (λd=>k [wB d] [] [])
theorem jmd:SO 140 jmO:=fK (np:=0) (Za6 jgp (Za6 jn8 (Za6 jn7 Zas))) [] oN false Tryz.func140 λ_ _ _ _=>by delta j8B jgE jhI jhH;refine gz j6H λ_ b=>gz j9Z λ_ d=>gz j7V λ_ f=> ?_;rewrite [<-b,<-d,<-f];kernel_rfl
end
end Go.PI.G
namespace Go.PI.G
noncomputable section
open Go Go.PI Go.Proofs
open Go.Code (pl pr)
def jcp (a:Int×Int×qS) (left:Int) (b:Int->Res):Res:=j8E a.2.2 left λr=>bif decide (r<0) then b (-1) else b r
def jnW:Sig Unit:=sg [.look y19 true,.look tI false] [false] [(y19,none),(tI,none)] [] λb f k=>jcp b.1 b.2.1 (λd=>k [wI d] [] [])
theorem jhb:SO 75 jnW:=fK (np:=0) (Za6 jmg Zas) [] oN false Tryz.func75 λ_ _ _ _=>by kernel_rfl
def jcr (a:Int×Int×qS) (b:qP->Res):Res:=j8G a.2.2 λr=>b (a.1,a.2.1,r)
def jnZ:Sig Unit:=sg [.borrow y19 true] [true] [(y19,none)] [] λd f k=>jcr d.1 (λb=>k [⟨y19,true,b,[.O,.O,.O,.O]⟩] [] [])
theorem jhd:SO 77 jnZ:=fK (np:=0) (Za6 jmj Zas) [] oN false Tryz.func77 λ_ _ _ _=>by kernel_rfl
def jcn (a:Int×Int×qS) (b:Int×Int×qS) (d:Bool->Res):Res:=bif (a.1 != b.1) then d false else bif (a.2.1 != b.2.1) then d false else j8B a.2.2 b.2.2 λr=>bif !r then d false else d true
def jnT:Sig Unit:=sg [.look y19 true,.look y19 true] [false] [(y19,none),(y19,none)] [] λb f k=>jcn b.1 b.2.1 (λd=>k [wB d] [] [])
theorem jh9:SO 79 jnT:=fK (np:=0) (Za6 jmd Zas) [] oN false Tryz.func79 λ_ _ _ _=>by kernel_rfl
end
end Go.PI.G
namespace Go.PI.G
noncomputable section
open Go Go.PI Go.Proofs
open Go.Code (pl pr)
def j3F (a:List qP) (left:Int) (i:Int) (rec:Int->Int->Res) (b:Int->Res) (d:Unit->Res):Res:=bif decide (i<(nI (List.length a))) then bif inb i (List.length a) then jcp (nth (0,0,0,eS,[],[],0,eS,[],[],eS,eS) a i) left λr=>bif decide (r<0) then d () else rec r (Z9K (i+1)) else none else b left
def jcZ (a:List qP):(Int×Int)->(Int×Int->Res)->((Int->Res)×(Unit->Res))->Res:=λv rec q=>j3F a v.1 v.2 (λleft i=>rec (left,i)) q.1 q.2
def jb3 (a:List qP) (n:Nat) (left:Int) (i:Int) (b:Int->Res) (d:Unit->Res):Res:=Z1f (jcZ a) n (left,i) (b,d)
def jed:Z1d Unit:=NdL 27 27 [.R 0 y20 .S,.I 1,.I 5] [] (λd f=>(d.2.1,d.2.2.1)) (λd v=>(d.1,v.1,v.2,())) (λf v=>()) (λd f=>jcZ d.1) λd f g=>((λb=>g (.exit 0) [(1,vI b)] []),(λ_=>g .ret [(4,vI (-1))] []))
theorem jk8:CN 0 122 Tryz.f26 jed:=lK (Za6 jhb Zas) [] oN ([],[]) [(0,[1],[])] ([4],[]) λ_ _ _ _ _=>by kernel_rfl
def j8D (a:List qP) (left:Int) (d:Int->Res):Res:=bif decide ((Z9K (left-(nI (List.length a))))<0) then d (-1) else jb3 a Z1c (Z9K (left-(nI (List.length a)))) 0 (λb=>d b) (λ_=>d (-1))
def jgG:Sig Unit:=sg [.look y20 false,.look tI false] [false] [(y20,none),(tI,none)] [] λb f k=>j8D b.1 b.2.1 (λd=>k [wI d] [] [])
theorem jmf:SO 26 jgG:=fK (np:=0) (Za6 jhb Zas) [jed] (oI 122 0 @jk8 oN) false Tryz.func26 λ_ _ _ _=>by kernel_rfl
def j3I (a:List qP) (b:List qP) (i:Int) (rec:(List qP)->Int->Res) (d:(List qP)->Res):Res:=bif decide (i<(nI (List.length a))) then bif inb i (List.length a) then jcr (nth (0,0,0,eS,[],[],0,eS,[],[],eS,eS) a i) λr=>bif inb i (List.length b) then rec (upd b i r) (Z9K (i+1)) else none else none else d b
def j93 (a:List qP):((List qP)×Int)->((List qP)×Int->Res)->(((List qP)->Res))->Res:=λv rec q=>j3I a v.1 v.2 (λb i=>rec (b,i)) q
def jl5 (a:List qP) (n:Nat) (b:List qP) (i:Int) (d:(List qP)->Res):Res:=Z1f (j93 a) n (b,i) (d)
def jeg:Z1d Unit:=NdL 23 23 [.R 0 y20 .S,.R 3 y20 .O,.I 4] [] (λb f=>(b.2.1,b.2.2.1)) (λb v=>(b.1,v.1,v.2,())) (λf v=>()) (λb f=>j93 b.1) λb f g=>((λd=>g (.exit 0) [(3,v1 y20 d .O)] []))
theorem jkb:CN 0 58 Tryz.f28 jeg:=lK (Za6 jhd Zas) [] oN ([],[]) [(0,[3],[])] ([],[]) λ_ _ _ _ _=>by kernel_rfl
def j4N (a:List qP) (d:(List qP)->Res):Res:=bif Z9I (nI (List.length a)) (nI (List.length a)) then jl5 a Z1c (Z9h (nI (List.length a)) (0,0,0,eS,[],[],0,eS,[],[],eS,eS)) 0 λb=>d b else none
def jgJ:Sig Unit:=sg [.borrow y20 false] [false] [(y20,none)] [] λd f k=>j4N d.1 (λb=>k [w1 y20 b .O] [] [])
theorem jmi:SO 28 jgJ:=fK (np:=0) (Za6 jhd Zas) [jeg] (oI 58 0 @jkb oN) false Tryz.func28 λ_ _ _ _=>by kernel_rfl
def j3C (a:List qP) (b:List qP) (i:Int) (rec:Int->Res) (d:Unit->Res) (f:Unit->Res):Res:=bif decide (i<(nI (List.length a))) then bif inb i (List.length a) then bif inb i (List.length b) then jcn (nth (0,0,0,eS,[],[],0,eS,[],[],eS,eS) a i) (nth (0,0,0,eS,[],[],0,eS,[],[],eS,eS) b i) λr=>bif !r then f () else rec (Z9K (i+1)) else none else none else d ()
def jcW (a:List qP) (b:List qP):Int->(Int->Res)->((Unit->Res)×(Unit->Res))->Res:=λv rec q=>j3C a b v (λi=>rec (i)) q.1 q.2
def jfg (a:List qP) (b:List qP) (n:Nat) (i:Int) (d:Unit->Res) (f:Unit->Res):Res:=Z1f (jcW a b) n (i) (d,f)
def jea:Z1d Unit:=NdL 27 27 [.R 0 y20 .S,.R 1 y20 .S,.I 5] [] (λb d=>(b.2.2.1)) (λb v=>(b.1,b.2.1,v,())) (λd v=>()) (λb d=>jcW b.1 b.2.1) λb d f=>((λ_=>f (.exit 0) [] []),(λ_=>f .ret [(4,vB false)] []))
theorem jk5:CN 0 58 Tryz.f30 jea:=lK (Za6 jh9 Zas) [] oN ([],[]) [(0,[],[])] ([4],[]) λ_ _ _ _ _=>by kernel_rfl
def j8A (a:List qP) (b:List qP) (d:Bool->Res):Res:=bif ((nI (List.length a)) != (nI (List.length b))) then d false else jfg a b Z1c 0 (λ_=>d true) (λ_=>d false)
def jgD:Sig Unit:=sg [.look y20 false,.look y20 false] [false] [(y20,none),(y20,none)] [] λb f k=>j8A b.1 b.2.1 (λd=>k [wB d] [] [])
theorem jmc:SO 30 jgD:=fK (np:=0) (Za6 jh9 Zas) [jea] (oI 58 0 @jk5 oN) false Tryz.func30 λ_ _ _ _=>by kernel_rfl
end
end Go.PI.G
namespace Go.PI.G
noncomputable section
open Go Go.PI Go.Proofs
open Go.Code (pl pr)
def jbz (a:qB×Int) (left:Int) (b:Int->Res):Res:=bif decide ((Z9K (left-(nI (ByteArray.size a.1))))<0) then b (-1) else b (Z9K (left-(nI (ByteArray.size a.1))))
def jmP:Sig Unit:=sg [.look y22 true,.look tI false] [false] [(y22,none),(tI,none)] [] λb f k=>jbz b.1 b.2.1 (λd=>k [wI d] [] [])
theorem jgq:SO 119 jmP:=fK (np:=0) Zas [] oN false Tryz.func119 λ_ _ _ _=>by kernel_rfl
def jbA (a:qB×Int) (b:(qB×Int)->Res):Res:=b (a.1,a.2)
def jmR:Sig Unit:=sg [.look y22 true] [true] [(y22,none)] [] λd f k=>jbA d.1 (λb=>k [⟨y22,true,b,[]⟩] [] [])
theorem jgs:SO 122 jmR:=fK (np:=0) Zas [] oN false Tryz.func122 λ_ _ _ _=>by kernel_rfl
def jby (a:qB×Int) (b:qB×Int) (d:Bool->Res):Res:=bif sNe a.1 b.1 then d false else bif (a.2 != b.2) then d false else d true
def jmN:Sig Unit:=sg [.look y22 true,.look y22 true] [false] [(y22,none),(y22,none)] [] λb f k=>jby b.1 b.2.1 (λd=>k [wB d] [] [])
theorem jgo:SO 125 jmN:=fK (np:=0) Zas [] oN false Tryz.func125 λ_ _ _ _=>by kernel_rfl
end
end Go.PI.G
namespace Go.PI.G
noncomputable section
open Go Go.PI Go.Proofs
open Go.Code (pl pr)
def j2L (a:List (qB×Int)) (left:Int) (i:Int) (rec:Int->Int->Res) (b:Int->Res) (d:Unit->Res):Res:=bif decide (i<(nI (List.length a))) then bif inb i (List.length a) then jbz (nth (eS,0) a i) left λr=>bif decide (r<0) then d () else rec r (Z9K (i+1)) else none else b left
def jci (a:List (qB×Int)):(Int×Int)->(Int×Int->Res)->((Int->Res)×(Unit->Res))->Res:=λv rec q=>j2L a v.1 v.2 (λleft i=>rec (left,i)) q.1 q.2
def ja2 (a:List (qB×Int)) (n:Nat) (left:Int) (i:Int) (b:Int->Res) (d:Unit->Res):Res:=Z1f (jci a) n (left,i) (b,d)
def jdp:Z1d Unit:=NdL 27 27 [.R 0 y23 .S,.I 1,.I 5] [] (λd f=>(d.2.1,d.2.2.1)) (λd v=>(d.1,v.1,v.2,())) (λf v=>()) (λd f=>jci d.1) λd f g=>((λb=>g (.exit 0) [(1,vI b)] []),(λ_=>g .ret [(4,vI (-1))] []))
theorem jj6:CN 0 122 Tryz.f54 jdp:=lK (Za6 jgq Zas) [] oN ([],[]) [(0,[1],[])] ([4],[]) λ_ _ _ _ _=>by kernel_rfl
def j7q (a:List (qB×Int)) (left:Int) (d:Int->Res):Res:=bif decide ((Z9K (left-(nI (List.length a))))<0) then d (-1) else ja2 a Z1c (Z9K (left-(nI (List.length a)))) 0 (λb=>d b) (λ_=>d (-1))
def jfp:Sig Unit:=sg [.look y23 false,.look tI false] [false] [(y23,none),(tI,none)] [] λb f k=>j7q b.1 b.2.1 (λd=>k [wI d] [] [])
theorem jkL:SO 54 jfp:=fK (np:=0) (Za6 jgq Zas) [jdp] (oI 122 0 @jj6 oN) false Tryz.func54 λ_ _ _ _=>by kernel_rfl
def j2M (a:List (qB×Int)) (b:List (qB×Int)) (i:Int) (rec:(List (qB×Int))->Int->Res) (d:(List (qB×Int))->Res):Res:=bif decide (i<(nI (List.length a))) then bif inb i (List.length a) then jbA (nth (eS,0) a i) λr=>bif inb i (List.length b) then rec (upd b i r) (Z9K (i+1)) else none else none else d b
def j8h (a:List (qB×Int)):((List (qB×Int))×Int)->((List (qB×Int))×Int->Res)->(((List (qB×Int))->Res))->Res:=λv rec q=>j2M a v.1 v.2 (λb i=>rec (b,i)) q
def jjT (a:List (qB×Int)) (n:Nat) (b:List (qB×Int)) (i:Int) (d:(List (qB×Int))->Res):Res:=Z1f (j8h a) n (b,i) (d)
def jdq:Z1d Unit:=NdL 23 23 [.R 0 y23 .S,.R 3 y23 .O,.I 4] [] (λb f=>(b.2.1,b.2.2.1)) (λb v=>(b.1,v.1,v.2,())) (λf v=>()) (λb f=>j8h b.1) λb f g=>((λd=>g (.exit 0) [(3,v1 y23 d .O)] []))
theorem jj7:CN 0 58 Tryz.f56 jdq:=lK (Za6 jgs Zas) [] oN ([],[]) [(0,[3],[])] ([],[]) λ_ _ _ _ _=>by kernel_rfl
def j3J (a:List (qB×Int)) (d:(List (qB×Int))->Res):Res:=bif Z9I (nI (List.length a)) (nI (List.length a)) then jjT a Z1c (Z9h (nI (List.length a)) (eS,0)) 0 λb=>d b else none
def jfq:Sig Unit:=sg [.borrow y23 false] [false] [(y23,none)] [] λd f k=>j3J d.1 (λb=>k [w1 y23 b .O] [] [])
theorem jkM:SO 56 jfq:=fK (np:=0) (Za6 jgs Zas) [jdq] (oI 58 0 @jj7 oN) false Tryz.func56 λ_ _ _ _=>by kernel_rfl
def j2K (a:List (qB×Int)) (b:List (qB×Int)) (i:Int) (rec:Int->Res) (d:Unit->Res) (f:Unit->Res):Res:=bif decide (i<(nI (List.length a))) then bif inb i (List.length a) then bif inb i (List.length b) then jby (nth (eS,0) a i) (nth (eS,0) b i) λr=>bif !r then f () else rec (Z9K (i+1)) else none else none else d ()
def jcg (a:List (qB×Int)) (b:List (qB×Int)):Int->(Int->Res)->((Unit->Res)×(Unit->Res))->Res:=λv rec q=>j2K a b v (λi=>rec (i)) q.1 q.2
def jdU (a:List (qB×Int)) (b:List (qB×Int)) (n:Nat) (i:Int) (d:Unit->Res) (f:Unit->Res):Res:=Z1f (jcg a b) n (i) (d,f)
def jdo:Z1d Unit:=NdL 27 27 [.R 0 y23 .S,.R 1 y23 .S,.I 5] [] (λb d=>(b.2.2.1)) (λb v=>(b.1,b.2.1,v,())) (λd v=>()) (λb d=>jcg b.1 b.2.1) λb d f=>((λ_=>f (.exit 0) [] []),(λ_=>f .ret [(4,vB false)] []))
theorem jj5:CN 0 58 Tryz.f58 jdo:=lK (Za6 jgo Zas) [] oN ([],[]) [(0,[],[])] ([4],[]) λ_ _ _ _ _=>by kernel_rfl
def j7p (a:List (qB×Int)) (b:List (qB×Int)) (d:Bool->Res):Res:=bif ((nI (List.length a)) != (nI (List.length b))) then d false else jdU a b Z1c 0 (λ_=>d true) (λ_=>d false)
def jfo:Sig Unit:=sg [.look y23 false,.look y23 false] [false] [(y23,none),(y23,none)] [] λb f k=>j7p b.1 b.2.1 (λd=>k [wB d] [] [])
theorem jkK:SO 58 jfo:=fK (np:=0) (Za6 jgo Zas) [jdo] (oI 58 0 @jj5 oN) false Tryz.func58 λ_ _ _ _=>by kernel_rfl
end
end Go.PI.G
namespace Go.PI.G
open Go Go.PI Go.Proofs
open Go.Code (pl pr)
noncomputable def j1U (f:List qP) (b:List (qB×Int)) (d:Bool->Res):Res:=j8D f 1048576 λr=>bif decide (r<0) then d true else j7q b r λk=>bif decide (k<0) then d true else j4N f λl=>j3J b λm=>j5P l m λn=>j4N f λi=>j3J b λj=>j5h i j λp=>bif sNe p n then d false else j4N f λq=>j8A i q λw=>bif !w then d false else j3J b λg=>j7p j g λh=>bif !h then d false else d true
noncomputable def j1l:Sig Unit:=⟨[.borrow y20 false,.borrow y23 false],[false],λvals ext k=>av vals y20 λd vals=>av vals y23 λb vals=>nl vals<|nl ext<|j1U d b (λf=>k [wB f] [] [])⟩
theorem jeW:Z17 Tryz.prog 11 j1l:=jn2 (np:=0) follows j1D (Za6 jmf (Za6 jmi (Za6 jmc (Za6 jkL (Za6 jkO (Za6 jkM (Za6 jkB (Za6 jkK Zas)))))))) [] oN false Tryz.func11 λ_ _ k _ h=>aV h λ_ _ _ _ _ h=>aV h λ_ _ _ _ _ h=>nL h λ_ h=>nL h λ_ h=>by subst_vars;exact .trans (by delta j1U jgG jfp jgJ jfq jfs jfl jgD jfo;refine gz j8D λ_ b=>gz j7q λ_ d=>gz j4N λ_ f=>gz j3J λ_ g=>gz j5P λ_ i=>gz j5h λ_ j=>gz j8A λ_ l=>gz j7p λ_ m=> ?_;rewrite [<-b,<-d,<-f,<-g,<-i,<-j,<-l,<-m];kernel_rfl) h
end Go.PI.G
namespace Go.PI.G
open Go Go.PI
abbrev V:=Int×Int×ByteArray
theorem jbC (s:ByteArray):(Z1n s).length=s.size:=by unfold Z1n;simp
theorem j0a (a b:ByteArray):sEq a b=true↔a=b:=by
 unfold sEq
 rw [beq_iff_eq]
 constructor
 ·intro h
  rw [ByteArray.ext_iff]
  have d:a.toList=a.data.toList:=by rw [ByteArray.toList_eq]
  have f:b.toList=b.data.toList:=by rw [ByteArray.toList_eq]
  rw [d,f] at h
  exact Array.toList_inj.1 h
 ·rintro rfl;rfl
def jb6 (n:Int):Bool:=decide (-1099511627775<=n/\n<=1099511627775)
def j0o (v:V):Bool:=
 bif v.1==0 then (v.2.1==0)&&sEq v.2.2 eS
 else bif v.1==1 then ((v.2.1==0)||(v.2.1==1))&&sEq v.2.2 eS
 else bif v.1==2 then jb6 v.2.1&&sEq v.2.2 eS
 else bif v.1==3 then (v.2.1==0)&&decide (nI v.2.2.size<=30)
 else false
theorem jq8 (x:Int):decide (0<=x/\x<=1)=((x==0)||(x==1)):=by
 by_cases h:0<=x/\x<=1
 ·rw [decide_eq_true h]
  have:x=0\/x=1:=by omega
  rcases this with rfl | rfl<;>rfl
 ·rw [decide_eq_false h]
  have b:(x==0)=false:=by simp;omega
  have d:(x==1)=false:=by simp;omega
  rw [b,d];rfl
theorem jga {v:V} (h:j0o v=true):v=(0,0,eS)\/(∃ n,(n=0\/n=1)/\v=(1,n,eS))\/(∃ n,(-1099511627775<=n/\n<=1099511627775)/\v=(2,n,eS))\/∃ s:ByteArray,s.size<=30/\v=(3,0,s):=by
 obtain ⟨t,n,s⟩:=v
 unfold j0o at h
 simp only at h
 cases d:t==0
 ·cases f:t==1
  ·cases g:t==2
   ·cases i:t==3
    ·rw [d,f,g,i] at h;cases h
    ·rw [d,f,g,i] at h
     simp only [cond_false,cond_true,Bool.and_eq_true,beq_iff_eq,decide_eq_true_eq] at h i
     obtain ⟨rfl,h⟩:=h
     subst i
     exact .inr (.inr (.inr ⟨s,by unfold nI at h;omega,rfl⟩))
   ·rw [d,f,g] at h
    simp only [cond_false,cond_true,Bool.and_eq_true,beq_iff_eq] at h g
    obtain ⟨h,b⟩:=h
    rw [j0a] at b
    subst b;subst g
    exact .inr (.inr (.inl ⟨n,of_decide_eq_true h,rfl⟩))
  ·rw [d,f] at h
   simp only [cond_false,cond_true,Bool.and_eq_true,Bool.or_eq_true,beq_iff_eq] at h f
   obtain ⟨h,b⟩:=h
   rw [j0a] at b
   subst b;subst f
   exact .inr (.inl ⟨n,h,rfl⟩)
 ·rw [d] at h
  simp only [cond_true,Bool.and_eq_true,beq_iff_eq] at h d
  obtain ⟨h,b⟩:=h
  rw [j0a] at b
  subst b;subst d;subst h
  exact .inl rfl
theorem jqs {v:V} (h:j0o v=true):v.2.2.size<=30:=by
 rcases jga h with rfl | ⟨n,_,rfl⟩ | ⟨n,_,rfl⟩ | ⟨s,b,rfl⟩
 ·show (0:Nat)<=30;omega
 ·show (0:Nat)<=30;omega
 ·show (0:Nat)<=30;omega
 ·exact b
def be (n:Nat):Nat->List Int
 | 0=>[]
 | s+1=>((n / 256 ^ s % 256:Nat):Int)::be n s
theorem jpG (n:Nat):(s:Nat)->(be n s).length=s
 | 0=>rfl
 | s+1=>by simp [be,jpG n s]
noncomputable def wB (v:V):List Int:=
 bif v.1==1 then [1,v.2.1]
 else bif v.1==2 then 2::(bif decide (v.2.1<0) then 1 else 0)::be v.2.1.natAbs 6
 else bif v.1==3 then 3::nI v.2.2.size::Z1n v.2.2
 else [0]
theorem jrR {v:V} (h:j0o v=true):(wB v).length<=32:=by
 rcases jga h with rfl | ⟨n,_,rfl⟩ | ⟨n,_,rfl⟩ | ⟨s,b,rfl⟩
 ·show (1:Nat)<=32;omega
 ·show (2:Nat)<=32;omega
 ·show (2::(bif decide (n<0) then 1 else 0)::be n.natAbs 6).length<=32
  simp [jpG]
 ·show (3::nI s.size::Z1n s).length<=32
  simp [jbC];omega
theorem jaV:(l:List V)->(∀ v∈l,j0o v=true)->(l.flatMap wB).length<=32 * l.length
 | [],_=>by simp
 | v::l,h=>by
  have d:=jrR (h v (by simp))
  have f:=jaV l λv b=>h v (List.mem_cons_of_mem _ b)
  simp only [List.flatMap_cons,List.length_append,List.length_cons]
  omega
end Go.PI.G
set_option linter.unusedSimpArgs false
namespace Go.PI.G
open Go Go.PI Go.Proofs
theorem j1R (x b d:Int) (k:Bool->Res):j09 x b d k=k (decide (b<=x/\x<=d)):=by
 unfold j09
 by_cases h:x>=b
 ·rw [decide_eq_true h,cond_true]
  congr 1
  exact decide_eq_decide.2 (by omega)
 ·rw [decide_eq_false h,cond_false]
  congr 1
  exact (decide_eq_false (by omega)).symm
end Go.PI.G
namespace Go.PI.G
open Go Go.PI Go.Proofs
theorem jdT (n:Int) (k:Bool->Res):j8J n k=k (jb6 n):=j1R n _ _ k
theorem j80 (v:V) (k:Bool->Res):j1g v k=k (j0o v):=by
 unfold j1g j0o
 cases v.1==0
 ·cases v.1==1
  ·cases v.1==2
   ·cases v.1==3
    ·rfl
    ·cases v.2.1==0<;>rfl
   ·rw [cond_false,cond_false,cond_true,jdT]
    cases jb6 v.2.1<;>rfl
  ·cases v.2.1==0
   ·cases v.2.1==1<;>rfl
   ·rfl
 ·cases v.2.1==0<;>rfl
theorem j7Q (v:V) (k:Bool->Res):j0X v k=k (j0o v):=by
 unfold j0X j0o
 simp only [j1R,jq8]
 cases v.1==0
 ·cases v.1==1
  ·cases v.1==2
   ·cases v.1==3
    ·rfl
    ·cases v.2.1==0<;>rfl
   ·rw [cond_false,cond_false,cond_true,cond_false,cond_false,cond_true]
    show (bif jb6 v.2.1 then _ else _)=_
    cases jb6 v.2.1<;>rfl
  ·cases v.2.1==0
   ·cases v.2.1==1<;>rfl
   ·rfl
 ·cases v.2.1==0<;>rfl
end Go.PI.G
namespace Go.PI.G
noncomputable section
open Go Go.PI
def msr:(τ:Ty)->El τ->Nat
 | .str,s=>ByteArray.size s
 | .slice e,l=>List.length (α:=El e) l+(List.map (msr e) l).sum
 | .pair a b,x=>msr a x.1+msr b x.2
 | .int _,_=>0
 | .bool,_=>0
 | .unit,_=>0
def wgt:(τ:Ty)->El τ->Nat
 | .str,_=>1
 | .slice e,l=>(List.map (wgt e) l).sum
 | .pair a b,x=>wgt a x.1+wgt b x.2
 | .int _,_=>1
 | .bool,_=>1
 | .unit,_=>0
theorem j9D {a b:Ty} {x:El (.pair a b)}:msr a x.1<=msr (.pair a b) x:=Nat.le_add_right _ _
theorem j07 {a b:Ty} {x:El (.pair a b)}:msr b x.2<=msr (.pair a b) x:=Nat.le_add_left _ _
def dgt (x:Int):ByteArray:=Z3B [wu8 (Z9K (48+x))]
def jrL (n:Nat):ByteArray:=if h:n<10 then dgt n else jrL (n / 10)++dgt ((n % 10:Nat):Int)
termination_by n
decreasing_by omega
def mT (k:Int):ByteArray:=(⟨#[109]⟩:ByteArray)++jrL k.toNat
def mk:(τ:Ty)->El τ->Int->El τ
 | .str,_,k=>mT k
 | .slice e,l,k=>mkL (wgt e) (mk e) l k
 | .pair a b,x,k=>(mk a x.1 k,mk b x.2 (k+(wgt a x.1:Int)))
 | .int .u8,_,k=>wu8 k
 | .int _,_,k=>k
 | .bool,_,k=>(Int.tmod k 3==0)
 | .unit,x,_=>x
theorem jlP (e:Ty) (l:List (El e)):msr (.slice e) l=l.length+(l.map (msr e)).sum:=rfl
theorem j0C {e:Ty} {l:List (El e)} {n:Nat} (h:msr (.slice e) l<=n):l.length<=n:=by
 have:msr (.slice e) l=l.length+(l.map (msr e)).sum:=rfl
 omega
theorem j11 {e:Ty} {l:List (El e)} {n:Nat} (h:msr (.slice e) l<=n) {x:El e} (b:x∈l):msr e x<=n:=by
 have d:msr (.slice e) l=l.length+(l.map (msr e)).sum:=rfl
 have:=Z9H (msr e) l x b
 omega
end
end Go.PI.G
namespace Go.PI.G
open Go Go.PI
theorem jra {left:Int} (h:0<=left):szR left 0=left:=by unfold szR;rw [if_pos (by omega)];omega
theorem jhW {left:Int} {n rest:Nat} {F:Int->Res} {k:Int->Res} (f:0<=left) (g:left<=1048576) (d:n<=maxLen) (b:(n:Int)<=left->F (left-n)=k (szR (left-n) rest)) :
  (bif decide (Z9K (left-nI n)<0) then k (-1) else F (Z9K (left-nI n)))=k (szR left (n+rest)):=by
 unfold maxLen at d
 rw [ZaH (by unfold nI;omega) (by unfold nI;omega)]
 unfold nI
 by_cases h:(n:Int)<=left
 ·rw [Za4 (by omega),cond_false,b h,Zak h]
 ·rw [Za5 (by omega),cond_true,Zal h]
theorem jdh {left:Int} {k:Int->Res} (b:0<=left):k left=k (szR left 0):=by rw [jra b]
theorem j00 {i n:Nat} (h:i<n):inb (i:Int) n=true:=ZaK (by omega) (by omega)
theorem j01 {n:Int} (h: -9223372036854775808<=n/\n<9223372036854775808):Z9K n=n:=ZaH h.1 h.2
theorem joc (n:Nat):Int.tdiv (n:Int) 10=((n / 10:Nat):Int):=by
 rw [Int.tdiv_eq_ediv_of_nonneg (by omega)];omega
theorem jod (n:Nat):Int.tmod (n:Int) 10=((n % 10:Nat):Int):=by
 rw [Int.tmod_eq_emod_of_nonneg (by omega)];omega
theorem jrM (s:ByteArray):s++eS=s:=by
 show s++ByteArray.empty=s
 simp
end Go.PI.G
namespace Go.PI.G
noncomputable section
open Go Go.PI
abbrev C:=ByteArray×Int×Bool×Bool×V
abbrev T:=ByteArray×List C×List ByteArray
abbrev DB:=List T×List (List (List V))
abbrev yV:Ty:= .pair (.int .i64) (.pair (.int .i64) .str)
abbrev yC:Ty:= .pair .str (.pair (.int .i64) (.pair .bool (.pair .bool yV)))
abbrev yT:Ty:= .pair .str (.pair (.slice yC) (.slice .str))
abbrev yDB:Ty:= .pair (.slice yT) (.slice (.slice (.slice yV)))
abbrev zV:V:=(0,0,eS)
abbrev zC:C:=(eS,0,false,false,0,0,eS)
abbrev zT:T:=(eS,[],[])
theorem jcl {α:Type} (p:α->Bool) (l:List α): -1<=Z9F p l/\Z9F p l<(l.length:Int):=by
 unfold Z9F
 cases h:l.findIdx? p with
 | none=>simp only [];omega
 | some i=>
  have:=(List.findIdx?_eq_some_iff_findIdx_eq.1 h).1
  simp only [];omega
theorem j9M {α:Type} {f:Nat->α->Bool}:(l:List α)->(i:Nat)->Z71 f i l=false->∀ (j:Nat) (h:j<l.length),f (i+j) l[j]=false
 | [],_,_,j,h=>by simp at h
 | x::l,i,h,j,b=>by
  simp only [Z71,Bool.or_eq_false_iff] at h
  cases j with
  | zero=>simpa using h.1
  | succ j=>
   have:=j9M l (i+1) h.2 j (by simpa using b)
   rw [show i+(j+1)=i+1+j by omega]
   simpa using this
def j0g (s:ByteArray):Bool:= !((Z1n s).any λb=>decide (b<97)||decide (b>122))&&(decide (1<=s.size)&&decide (s.size<=8))
def veq (a b:V):Bool:=(a.1==b.1)&&((a.2.1==b.2.1)&&sEq a.2.2 b.2.2)
theorem jfD (a b:V):veq a b=true↔a=b:=by
 obtain ⟨d,f,g⟩:=a
 obtain ⟨h,i,j⟩:=b
 unfold veq
 simp only [Bool.and_eq_true,beq_iff_eq,j0a,Prod.mk.injEq]
def vlt (a b:V):Bool:=j0o a&&(j0o b&&(bif a.1 != b.1 then decide (a.1<b.1) else bif a.2.1 != b.2.1 then decide (a.2.1<b.2.1) else sLt a.2.2 b.2.2))
def ji1 (v:V):Bool:=(v.1==0)&&((v.2.1==0)&&sEq v.2.2 eS)
def j0U (c:C):Bool:=j0g c.1&&(decide (1<=c.2.1/\c.2.1<=3)&&(j0o c.2.2.2.2&&(bif c.2.2.2.1 then (c.2.2.2.2.1==c.2.1)||((c.2.2.2.2.1==0)&& !c.2.2.1) else ji1 c.2.2.2.2)))
def j02 (l:List C) (n:ByteArray):Int:=Z9F (λc=>sEq c.1 n) l
theorem j8w (l:List C) (n:ByteArray): -1<=j02 l n/\j02 l n<(l.length:Int):=jcl _ _
theorem jqr:j0o (0,0,eS)=true:=by
 show (((0:Int)==0)&&sEq eS eS)=true
 rw [Zah];rfl
theorem jpj:ji1 (0,0,eS)=true:=by
 show (((0:Int)==0)&&(((0:Int)==0)&&sEq eS eS))=true
 rw [Zah];rfl
def j17 (l:List C):Int->List ByteArray->Bool
 | _,[]=>true
 | b,k::ks=> !decide (j02 l k<=b)&&((nth zC l (j02 l k)).2.2.1&&j17 l (j02 l k) ks)
def j4l (l:List C):Bool:= !Z71 (λi c=> !j0U c||(j02 l c.1 != (i:Int))) 0 l
def j03 (t:T):Bool:=(j0g t.1&&(decide (1<=t.2.1.length)&&(decide (t.2.1.length<=8)&&decide (1<=t.2.2.length))))&&(j4l t.2.1&&j17 t.2.1 (-1) t.2.2)
def j04 (l:List T) (n:ByteArray):Int:=Z9F (λt=>sEq t.1 n) l
def j21 (c:List T):Bool:=decide (c.length<=6)&& !Z71 (λi t=> !j03 t||(decide (0<i)&&sGe (nth zT c ((i:Int)-1)).1 t.1)) 0 c
def j3s (c:C) (v:V):Bool:=j0o v&&((v.1==c.2.1)||((v.1==0)&& !c.2.2.1))
def j0n (l:List C) (r:List V):Bool:=decide (r.length=l.length)&& !Z71 (λi c=> !j3s c (nth zV r (i:Int))) 0 l
def j05 (t:T) (r:List V):List V:=t.2.2.map λk=>nth zV r (j02 t.2.1 k)
def klt:List V->List V->Bool
 | [],[]=>false
 | [],_::_=>true
 | _::_,[]=>false
 | x::xs,y::ys=>bif veq x y then klt xs ys else vlt x y
def j08 (t:T) (l:List (List V)):Bool:=j03 t&&(decide (l.length<=60)&& !Z71 (λi r=> !j0n t.2.1 r||(decide (0<i)&& !klt (j05 t (nth [] l ((i:Int)-1))) (j05 t r))) 0 l)
def dbB (d:DB):Bool:=j21 d.1&&(decide (d.2.length=d.1.length)&& !Z71 (λi t=> !j08 t (nth [] d.2 (i:Int))) 0 d.1)
theorem j1C {t:T} (h:j03 t=true):j0g t.1=true/\1<=t.2.1.length/\t.2.1.length<=8/\1<=t.2.2.length/\j4l t.2.1=true/\j17 t.2.1 (-1) t.2.2=true:=by
 unfold j03 at h
 simp only [Bool.and_eq_true,decide_eq_true_eq] at h
 exact ⟨h.1.1,h.1.2.1,h.1.2.2.1,h.1.2.2.2,h.2.1,h.2.2⟩
theorem j18 {l:List C}:(ks:List ByteArray)->(b:Int)-> -1<=b->j17 l b ks=true->∀ k∈ks,0<=j02 l k/\j02 l k<(l.length:Int)
 | [],_,_,_,k,d=>by cases d
 | q::ks,b,i,h,k,d=>by
  simp only [j17,Bool.and_eq_true,Bool.not_eq_true',decide_eq_false_iff_not] at h
  have f:=(jcl (λc:C=>sEq c.1 q) l).2
  have g:0<=j02 l q:=by omega
  rcases List.mem_cons.1 d with rfl | d
  ·exact ⟨g,f⟩
  ·exact j18 ks (j02 l q) (by omega) h.2.2 k d
theorem jru {c:C} (h:j0U c=true):1<=c.2.1/\c.2.1<=3:=by
 unfold j0U at h
 simp only [Bool.and_eq_true,decide_eq_true_eq] at h
 exact h.2.1
theorem jlG {l:List C} (h:j4l l=true) (i:Nat) (b:i<l.length):j0U l[i]=true:=by
 unfold j4l at h
 have:=j9M l 0 (by simpa using h) i b
 simp only [Bool.or_eq_false_iff,Bool.not_eq_false'] at this
 exact this.1
end
end Go.PI.G
namespace Go.PI.G
open Go Go.PI Go.Proofs
theorem jpH (s:ByteArray) (i:Nat) (h:i<(Z1n s).length):bt s (i:Int)=(Z1n s)[i]:=by
 have g:=jbC s
 have d:i<s.data.size:=by
  have:i<s.size:=by omega
  exact this
 have f:(Z1n s)[i]=((s.data.toList.map λb:UInt8=>(b.toNat:Int))[i]'(by simpa using d)):=rfl
 rw [f,List.getElem_map]
 unfold bt
 simp [Array.getElem?_eq_getElem d]
theorem jri (s:ByteArray) (x:Bool) (k:Bool->Res):(bif x then k false else (bif decide ((nI (ByteArray.size s))>=1) then k (decide ((nI (ByteArray.size s))<=8)) else k false))=k (!x&&(decide (1<=s.size)&&decide (s.size<=8))):=by
 cases x
 ·unfold nI
  by_cases b:1<=s.size
  ·rw [cond_false,decide_eq_true (show (s.size:Int)>=1 by omega),cond_true,decide_eq_true b]
   congr 1
   by_cases d:s.size<=8
   ·rw [decide_eq_true (show (s.size:Int)<=8 by omega),decide_eq_true d];rfl
   ·rw [decide_eq_false (show ¬ (s.size:Int)<=8 by omega),decide_eq_false d];rfl
  ·rw [cond_false,decide_eq_false (show ¬ (s.size:Int)>=1 by omega),cond_false,decide_eq_false b];rfl
 ·rfl
theorem j3d (s:ByteArray) (h:s.size<=LIM) (k:Bool->Res):j0m s k=k (j0g s):=by
 unfold j0m jfx
 have g:=jbC s
 have:=Za2 (Z1n s) (λi=>i) (λb=>decide (b<97)||decide (b>122)) (step:=j9a s) ((λ(_:Unit)=>bif decide ((nI (ByteArray.size s))>=1) then k (decide ((nI (ByteArray.size s))<=8)) else k false),(λ(_:Unit)=>k false)) (bif decide ((nI (ByteArray.size s))>=1) then k (decide ((nI (ByteArray.size s))<=8)) else k false) (k false) (by omega) (λi rec f=>by
  show j3S s _ _ _ _=_
  unfold j3S
  unfold LIM at h
  have d:i<s.size:=by omega
  rw [ZaQ d,cond_true,j00 d,cond_true,cond_true,jpH s i f,j01 (n:=(i:Int)+1) (by omega)]
  cases decide ((Z1n s)[i]<97)
  ·cases decide ((Z1n s)[i]>122)<;>rfl
  ·rfl) (λrec=>by
  show j3S s _ _ _ _=_
  unfold j3S
  rw [g,ZaP,cond_false])
 refine this.trans ?_
 exact jri s _ k
theorem j3b (s:ByteArray) (h:s.size<=LIM) (k:Bool->Res):j0h s k=k (j0g s):=by
 unfold j0h jaZ
 have j:=jbC s
 have:=Za2 (Z1n s) (λi=>i) (λb=>decide (b<97)||decide (b>122)) (step:=j66 s) ((λ(_:Unit)=>j09 (nI (ByteArray.size s)) 1 8 λ(r:Bool)=>k r),(λ(_:Unit)=>k false)) (j09 (nI (ByteArray.size s)) 1 8 λ(r:Bool)=>k r) (k false) (by omega) (λi rec g=>by
  show j3x s _ _ _ _=_
  unfold j3x
  unfold LIM at h
  have d:i<s.size:=by omega
  rw [ZaQ d,cond_true,j00 d,cond_true,cond_true,jpH s i g,j01 (n:=(i:Int)+1) (by omega)]
  cases decide ((Z1n s)[i]<97)
  ·cases decide ((Z1n s)[i]>122)<;>rfl
  ·rfl) (λrec=>by
  show j3x s _ _ _ _=_
  unfold j3x
  rw [j,ZaP,cond_false])
 refine this.trans ?_
 rw [j1R]
 have f:decide (1<=nI s.size/\nI s.size<=8)=(decide (1<=s.size)&&decide (s.size<=8)):=by
  rw [<-Bool.decide_and]
  exact decide_eq_decide.2 (by unfold nI;omega)
 rw [f]
 unfold j0g
 cases (Z1n s).any λb=>decide (b<97)||decide (b>122)<;>rfl
end Go.PI.G
