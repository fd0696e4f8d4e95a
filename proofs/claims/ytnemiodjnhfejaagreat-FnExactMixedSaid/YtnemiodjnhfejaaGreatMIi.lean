/-
  Program's code interpreted over typed values; printed texts; plain laws. No conditions.
-/
import Derived.Test.YtnemiodjnhfejaaGreatPc
import Derived.Test.YtnemiodjnhfejaaGreatMId
import Derived.Test.YtnemiodjnhfejaaGreatMIh
import Derived.Test.YtnemiodjnhfejaaGreatMIf
set_option linter.unusedVariables false
set_option maxRecDepth 100000
namespace Go.PI.G
noncomputable section
open Go Go.PI Go.Proofs
open Go.Code (pl pr)
theorem jdN:FS [(108,jar),(168,j3X)]:=(Za6 jja (Za6 jb2 Zas))
def j2Q (l:List qP) (place:Int) (d:List qP) (f:Int) (b:Int) (rec:Int->Res) (g:Unit->Res) (h:Int->Res):Res:=bif decide (b<f) then bif inb b (List.length d) then bif ((nth (0,0,0,eS,[],[],0,eS,[],[],eS,eS) d b).1==1) then bif inb (Z9K (place-1)) (List.length l) then bif ((nth (0,0,0,eS,[],[],0,eS,[],[],eS,eS) d b).2.1==(nth (0,0,0,eS,[],[],0,eS,[],[],eS,eS) l (Z9K (place-1))).2.1) then h (Z9K (b+1)) else rec (Z9K (b+1)) else none else rec (Z9K (b+1)) else none else g ()
def j4R (l:List qP) (place:Int) (b:List qP) (d:Int):Int->(Int->Res)->((Unit->Res)×(Int->Res))->Res:=λv rec q=>j2Q l place b d v (λf=>rec (f)) q.1 q.2
def j9J (l:List qP) (place:Int) (b:List qP) (d:Int) (n:Nat) (f:Int) (g:Unit->Res) (h:Int->Res):Res:=Z1f (j4R l place b d) n (f) (g,h)
def j8U:Z1d Unit:=NdL 36 36 [.R 0 y20 .S,.I 1,.R 12 y20 .S,.I 13,.I 14] [] (λb d=>(b.2.2.2.2.1)) (λb v=>(b.1,b.2.1,b.2.2.1,b.2.2.2.1,v,())) (λd v=>()) (λb d=>j4R b.1 b.2.1 b.2.2.1 b.2.2.2.1) λb d f=>((λ_=>f (.exit 0) [] []),(λg=>f .ret [(4,vI g)] []))
theorem jhZ:CN 0 58 Tryz.f101 j8U:=lK jdN [] oN ([],[]) [(0,[],[])] ([4],[]) λ_ _ _ _ _=>by kernel_rfl
def j5D (l:List qP) (place:Int) (b:Int->Res):Res:=j5t l λr=>j23 r place λd=>bif !d then b 0 else j9J l place l (nI (List.length l)) Z1c 0 (λ_=>b 0) (λt=>b t)
def jej:Sig Unit:=sg [.look y20 false,.look tI false] [false] [(y20,none),(tI,none)] [] λb f k=>j5D b.1 b.2.1 (λd=>k [wI d] [] [])
theorem je5:SO 101 jej:=fK (np:=0) jdN [j8U] (oI 58 0 @jhZ oN) false Tryz.func101 λ_ _ _ _=>by delta j5D jar j3X j8U j9J;refine gz j5t λ_ b=>gz j23 λ_ d=>gz j4R λ_ f=> ?_;rewrite [<-b,<-d,<-f];kernel_rfl
theorem jgS:FS [(104,jci),(163,j0Q)]:=(Za6 jlk (Za6 j1E Zas))
def j55 (l:List qP) (place:Int) (d:List qP) (f:Int) (b:Int) (rec:Int->Res) (g:Unit->Res) (h:(List qP)->Res):Res:=bif decide (b<f) then bif inb b (List.length d) then bif ((nth (0,0,0,eS,[],[],0,eS,[],[],eS,eS) d b).1==1) then bif inb (Z9K (place-1)) (List.length l) then bif ((nth (0,0,0,eS,[],[],0,eS,[],[],eS,eS) d b).2.1==(nth (0,0,0,eS,[],[],0,eS,[],[],eS,eS) l (Z9K (place-1))).2.1) then bif Z8e b place (List.length l) then h (sub l b place) else none else rec (Z9K (b+1)) else none else rec (Z9K (b+1)) else none else g ()
def j7p (l:List qP) (place:Int) (b:List qP) (d:Int):Int->(Int->Res)->((Unit->Res)×((List qP)->Res))->Res:=λv rec q=>j55 l place b d v (λf=>rec (f)) q.1 q.2
def jc6 (l:List qP) (place:Int) (b:List qP) (d:Int) (n:Nat) (f:Int) (g:Unit->Res) (h:(List qP)->Res):Res:=Z1f (j7p l place b d) n (f) (g,h)
def jbn:Z1d Unit:=NdL 52 52 [.R 0 y20 .S,.I 1,.R 26 y20 .S,.I 27,.I 28] [] (λb d=>(b.2.2.2.2.1)) (λb v=>(b.1,b.2.1,b.2.2.1,b.2.2.2.1,v,())) (λd v=>()) (λb d=>j7p b.1 b.2.1 b.2.2.1 b.2.2.2.1) λb d f=>((λ_=>f (.exit 0) [] []),(λg=>f .ret [(4,v1 y20 g .S)] []))
theorem jkU:CN 0 58 Tryz.f102 jbn:=lK jgS [] oN ([],[]) [(0,[],[])] ([4],[]) λ_ _ _ _ _=>by kernel_rfl
def j8Y (l:List qP) (place:Int) (b:(List qP)->Res):Res:=j9b l λr=>bif !r then b [] else j0a place 1 (nI (List.length l)) λd=>bif !d then b [] else bif inb (Z9K (place-1)) (List.length l) then bif ((nth (0,0,0,eS,[],[],0,eS,[],[],eS,eS) l (Z9K (place-1))).1 != 3) then b [] else jc6 l place l (nI (List.length l)) Z1c 0 (λ_=>b []) (λt=>b t) else none
def jh6:Sig Unit:=sg [.borrow y20 false,.borrow tI false] [false] [(y20,none),(tI,none)] [] λb f k=>j8Y b.1 b.2.1 (λd=>k [w1 y20 d .S] [] [])
theorem jgV:SO 102 jh6:=fK (np:=0) jgS [jbn] (oI 58 0 @jkU oN) true Tryz.func102 λ_ _ _ _=>by delta j8Y jci j0Q jbn jc6;refine gz j9b λ_ b=>gz j0a λ_ d=>gz j7p λ_ f=> ?_;rewrite [<-b,<-d,<-f];kernel_rfl
def j1r (l:List qP) (place:Int) (b:Int) (i:Int) (rec:Int->Int->Res) (d:Int->Res):Res:=bif decide (i>0) then bif decide (i<=place) then bif inb (Z9K (i-1)) (List.length l) then bif inb (Z9K (place-1)) (List.length l) then bif ((nth (0,0,0,eS,[],[],0,eS,[],[],eS,eS) l (Z9K (i-1))).2.1 != (nth (0,0,0,eS,[],[],0,eS,[],[],eS,eS) l (Z9K (place-1))).2.1) then rec (Z9K (b+1)) (Z9K (i+1)) else rec b (Z9K (i+1)) else none else none else d b else d b
def j6G (l:List qP) (place:Int):(Int×Int)->(Int×Int->Res)->((Int->Res))->Res:=λv rec q=>j1r l place v.1 v.2 (λb i=>rec (b,i)) q
def jbg (l:List qP) (place:Int) (n:Nat) (d:Int) (i:Int) (b:Int->Res):Res:=Z1f (j6G l place) n (d,i) (b)
def jaF:Z1d Unit:=NdL 37 37 [.R 0 y20 .S,.I 1,.I 5,.I 7] [] (λb f=>(b.2.2.1,b.2.2.2.1)) (λb v=>(b.1,b.2.1,v.1,v.2,())) (λf v=>()) (λb f=>j6G b.1 b.2.1) λb f g=>((λd=>g (.exit 0) [(5,vI d)] []))
theorem jjC:CN 0 122 Tryz.f31 jaF:=lK (Za6 je5 Zas) [] oN ([],[]) [(0,[5],[])] ([],[]) λ_ _ _ _ _=>by kernel_rfl
def j7z (l:List qP) (place:Int) (b:Int->Res):Res:=j5D l place λr=>jbg l place Z1c 0 r λd=>b d
def jgx:Sig Unit:=sg [.look y20 false,.look tI false] [false] [(y20,none),(tI,none)] [] λb f k=>j7z b.1 b.2.1 (λd=>k [wI d] [] [])
theorem jlu:SO 31 jgx:=fK (np:=0) (Za6 je5 Zas) [jaF] (oI 122 0 @jjC oN) false Tryz.func31 λ_ _ _ _=>by delta j7z jej jaF jbg;refine gz j5D λ_ b=>gz j6G λ_ d=> ?_;rewrite [<-b,<-d];kernel_rfl
def j1n (s:List qP) (d:List qP) (g:Int) (f:Int) (b:Int) (rec:Int->Int->Res) (h:Int->Res):Res:=bif decide (b<g) then bif inb b (List.length d) then bif inb 0 (List.length s) then bif ((nth (0,0,0,eS,[],[],0,eS,[],[],eS,eS) d b).2.1 != (nth (0,0,0,eS,[],[],0,eS,[],[],eS,eS) s 0).2.1) then rec (Z9K (f+1)) (Z9K (b+1)) else rec f (Z9K (b+1)) else none else none else h f
def j6u (s:List qP) (b:List qP) (d:Int):(Int×Int)->(Int×Int->Res)->((Int->Res))->Res:=λv rec q=>j1n s b d v.1 v.2 (λg f=>rec (g,f)) q
def j8g (s:List qP) (b:List qP) (d:Int) (n:Nat) (h:Int) (f:Int) (g:Int->Res):Res:=Z1f (j6u s b d) n (h,f) (g)
def jaC:Z1d Unit:=NdL 29 29 [.R 5 y20 .S,.I 6,.R 12 y20 .S,.I 13,.I 14] [] (λb f=>(b.2.1,b.2.2.2.2.1)) (λb v=>(b.1,v.1,b.2.2.1,b.2.2.2.1,v.2,())) (λf v=>()) (λb f=>j6u b.1 b.2.2.1 b.2.2.2.1) λb f g=>((λd=>g (.exit 0) [(6,vI d)] []))
theorem jjv:CN 0 122 Tryz.f32 jaC:=lK (Za6 jgV Zas) [] oN ([],[]) [(0,[6],[])] ([],[]) λ_ _ _ _ _=>by kernel_rfl
def j7n (l:List qP) (place:Int) (b:Int->Res):Res:=j8Y l place λr=>j8g r r (nI (List.length r)) Z1c 0 0 λd=>b d
def jgo:Sig Unit:=sg [.look y20 false,.look tI false] [false] [(y20,none),(tI,none)] [] λb f k=>j7n b.1 b.2.1 (λd=>k [wI d] [] [])
theorem jll:SO 32 jgo:=fK (np:=0) (Za6 jgV Zas) [jaC] (oI 122 0 @jjv oN) false Tryz.func32 λ_ _ _ _=>by delta j7n jh6 jaC j8g;refine gz j8Y λ_ b=>gz j6u λ_ d=> ?_;rewrite [<-b,<-d];kernel_rfl
end
end Go.PI.G
namespace Go.PI.G
noncomputable section
open Go Go.PI Go.Proofs
open Go.Code (pl pr)
def j9k (a:Int×Int×qB) (left:Int) (b:Int->Res):Res:=bif decide ((Z9K (left-(nI (ByteArray.size a.2.2))))<0) then b (-1) else b (Z9K (left-(nI (ByteArray.size a.2.2))))
def jmj:Sig Unit:=sg [.look y2 true,.look tI false] [false] [(y2,none),(tI,none)] [] λb f k=>j9k b.1 b.2.1 (λd=>k [wI d] [] [])
theorem jbS:SO 105 jmj:=fK (np:=0) Zas [] oN false Tryz.func105 λ_ _ _ _=>by kernel_rfl
def j9m (a:Int×Int×qB) (b:qV->Res):Res:=b (a.1,a.2.1,a.2.2)
def jmm:Sig Unit:=sg [.look y2 true] [true] [(y2,none)] [] λd f k=>j9m d.1 (λb=>k [⟨y2,true,b,[]⟩] [] [])
theorem jbT:SO 106 jmm:=fK (np:=0) Zas [] oN false Tryz.func106 λ_ _ _ _=>by kernel_rfl
def j9i (a:Int×Int×qB) (b:Int×Int×qB) (d:Bool->Res):Res:=bif (a.1 != b.1) then d false else bif (a.2.1 != b.2.1) then d false else bif sNe a.2.2 b.2.2 then d false else d true
def jmg:Sig Unit:=sg [.look y2 true,.look y2 true] [false] [(y2,none),(y2,none)] [] λb f k=>j9i b.1 b.2.1 (λd=>k [wB d] [] [])
theorem jbR:SO 107 jmg:=fK (np:=0) Zas [] oN false Tryz.func107 λ_ _ _ _=>by kernel_rfl
end
end Go.PI.G
namespace Go.PI.G
noncomputable section
open Go Go.PI Go.Proofs
open Go.Code (pl pr)
def jbB (a:qB×Int×Bool×Bool×Int×Int×qB) (left:Int) (b:Int->Res):Res:=bif decide ((Z9K (left-(nI (ByteArray.size a.1))))<0) then b (-1) else j9k a.2.2.2.2 (Z9K (left-(nI (ByteArray.size a.1)))) λr=>bif decide (r<0) then b (-1) else b r
def jmh:Sig Unit:=sg [.look y7 true,.look tI false] [false] [(y7,none),(tI,none)] [] λb f k=>jbB b.1 b.2.1 (λd=>k [wI d] [] [])
theorem jfR:SO 285 jmh:=fK (np:=0) (Za6 jbS Zas) [] oN false Tryz.func285 λ_ _ _ _=>by kernel_rfl
def jbD (a:qB×Int×Bool×Bool×Int×Int×qB) (b:qC->Res):Res:=j9m a.2.2.2.2 λr=>b (a.1,a.2.1,a.2.2.1,a.2.2.2.1,r)
def jmk:Sig Unit:=sg [.look y7 true] [true] [(y7,none)] [] λd f k=>jbD d.1 (λb=>k [⟨y7,true,b,[]⟩] [] [])
theorem jfT:SO 292 jmk:=fK (np:=0) (Za6 jbT Zas) [] oN false Tryz.func292 λ_ _ _ _=>by kernel_rfl
def jbz (a:qB×Int×Bool×Bool×Int×Int×qB) (b:qB×Int×Bool×Bool×Int×Int×qB) (d:Bool->Res):Res:=bif sNe a.1 b.1 then d false else bif (a.2.1 != b.2.1) then d false else bif !(a.2.2.1==b.2.2.1) then d false else bif !(a.2.2.2.1==b.2.2.2.1) then d false else j9i a.2.2.2.2 b.2.2.2.2 λr=>bif !r then d false else d true
def jme:Sig Unit:=sg [.look y7 true,.look y7 true] [false] [(y7,none),(y7,none)] [] λb f k=>jbz b.1 b.2.1 (λd=>k [wB d] [] [])
theorem jfP:SO 302 jme:=fK (np:=0) (Za6 jbR Zas) [] oN false Tryz.func302 λ_ _ _ _=>by kernel_rfl
end
end Go.PI.G
namespace Go.PI.G
open Go Go.PI Go.Proofs
open Go.Code (pl pr)
end Go.PI.G
namespace Go.PI.G
noncomputable section
open Go Go.PI Go.Proofs
open Go.Code (pl pr)
def j3m (a:List qC) (left:Int) (i:Int) (rec:Int->Int->Res) (b:Int->Res) (d:Unit->Res):Res:=bif decide (i<(nI (List.length a))) then bif inb i (List.length a) then jbB (nth (eS,0,false,false,0,0,eS) a i) left λr=>bif decide (r<0) then d () else rec r (Z9K (i+1)) else none else b left
def jcb (a:List qC):(Int×Int)->(Int×Int->Res)->((Int->Res)×(Unit->Res))->Res:=λv rec q=>j3m a v.1 v.2 (λleft i=>rec (left,i)) q.1 q.2
def jag (a:List qC) (n:Nat) (left:Int) (i:Int) (b:Int->Res) (d:Unit->Res):Res:=Z1f (jcb a) n (left,i) (b,d)
def jdc:Z1d Unit:=NdL 27 27 [.R 0 y8 .S,.I 1,.I 5] [] (λd f=>(d.2.1,d.2.2.1)) (λd v=>(d.1,v.1,v.2,())) (λf v=>()) (λd f=>jcb d.1) λd f g=>((λb=>g (.exit 0) [(1,vI b)] []),(λ_=>g .ret [(4,vI (-1))] []))
theorem jiA:CN 0 122 Tryz.f241 jdc:=lK (Za6 jfR Zas) [] oN ([],[]) [(0,[1],[])] ([4],[]) λ_ _ _ _ _=>by kernel_rfl
def j84 (a:List qC) (left:Int) (d:Int->Res):Res:=bif decide ((Z9K (left-(nI (List.length a))))<0) then d (-1) else jag a Z1c (Z9K (left-(nI (List.length a)))) 0 (λb=>d b) (λ_=>d (-1))
def jfm:Sig Unit:=sg [.look y8 false,.look tI false] [false] [(y8,none),(tI,none)] [] λb f k=>j84 b.1 b.2.1 (λd=>k [wI d] [] [])
theorem jky:SO 241 jfm:=fK (np:=0) (Za6 jfR Zas) [jdc] (oI 122 0 @jiA oN) false Tryz.func241 λ_ _ _ _=>by kernel_rfl
def j3p (a:List qC) (b:List qC) (i:Int) (rec:qE->Int->Res) (d:qE->Res):Res:=bif decide (i<(nI (List.length a))) then bif inb i (List.length a) then jbD (nth (eS,0,false,false,0,0,eS) a i) λr=>bif inb i (List.length b) then rec (upd b i r) (Z9K (i+1)) else none else none else d b
def j8u (a:List qC):(qE×Int)->(qE×Int->Res)->((qE->Res))->Res:=λv rec q=>j3p a v.1 v.2 (λb i=>rec (b,i)) q
def jjn (a:List qC) (n:Nat) (b:List qC) (i:Int) (d:qE->Res):Res:=Z1f (j8u a) n (b,i) (d)
def jdf:Z1d Unit:=NdL 23 23 [.R 0 y8 .S,.R 3 y8 .O,.I 4] [] (λb f=>(b.2.1,b.2.2.1)) (λb v=>(b.1,v.1,v.2,())) (λf v=>()) (λb f=>j8u b.1) λb f g=>((λd=>g (.exit 0) [(3,v1 y8 d .O)] []))
theorem jiD:CN 0 58 Tryz.f249 jdf:=lK (Za6 jfT Zas) [] oN ([],[]) [(0,[3],[])] ([],[]) λ_ _ _ _ _=>by kernel_rfl
def j87 (a:List qC) (d:qE->Res):Res:=bif Z9I (nI (List.length a)) (nI (List.length a)) then jjn a Z1c (Z9h (nI (List.length a)) (eS,0,false,false,0,0,eS)) 0 λb=>d b else none
def jfp:Sig Unit:=sg [.borrow y8 false] [false] [(y8,none)] [] λd f k=>j87 d.1 (λb=>k [w1 y8 b .O] [] [])
theorem jkB:SO 249 jfp:=fK (np:=0) (Za6 jfT Zas) [jdf] (oI 58 0 @jiD oN) false Tryz.func249 λ_ _ _ _=>by kernel_rfl
def j3j (a:List qC) (b:List qC) (i:Int) (rec:Int->Res) (d:Unit->Res) (f:Unit->Res):Res:=bif decide (i<(nI (List.length a))) then bif inb i (List.length a) then bif inb i (List.length b) then jbz (nth (eS,0,false,false,0,0,eS) a i) (nth (eS,0,false,false,0,0,eS) b i) λr=>bif !r then f () else rec (Z9K (i+1)) else none else none else d ()
def jc8 (a:List qC) (b:List qC):Int->(Int->Res)->((Unit->Res)×(Unit->Res))->Res:=λv rec q=>j3j a b v (λi=>rec (i)) q.1 q.2
def jeb (a:List qC) (b:List qC) (n:Nat) (i:Int) (d:Unit->Res) (f:Unit->Res):Res:=Z1f (jc8 a b) n (i) (d,f)
def jd9:Z1d Unit:=NdL 27 27 [.R 0 y8 .S,.R 1 y8 .S,.I 5] [] (λb d=>(b.2.2.1)) (λb v=>(b.1,b.2.1,v,())) (λd v=>()) (λb d=>jc8 b.1 b.2.1) λb d f=>((λ_=>f (.exit 0) [] []),(λ_=>f .ret [(4,vB false)] []))
theorem jix:CN 0 58 Tryz.f258 jd9:=lK (Za6 jfP Zas) [] oN ([],[]) [(0,[],[])] ([4],[]) λ_ _ _ _ _=>by kernel_rfl
def j81 (a:List qC) (b:List qC) (d:Bool->Res):Res:=bif ((nI (List.length a)) != (nI (List.length b))) then d false else jeb a b Z1c 0 (λ_=>d true) (λ_=>d false)
def jfj:Sig Unit:=sg [.look y8 false,.look y8 false] [false] [(y8,none),(y8,none)] [] λb f k=>j81 b.1 b.2.1 (λd=>k [wB d] [] [])
theorem jkv:SO 258 jfj:=fK (np:=0) (Za6 jfP Zas) [jd9] (oI 58 0 @jix oN) false Tryz.func258 λ_ _ _ _=>by kernel_rfl
end
end Go.PI.G
namespace Go.PI.G
noncomputable section
open Go Go.PI Go.Proofs
open Go.Code (pl pr)
def j1K (a:qL) (left:Int) (i:Int) (rec:Int->Int->Res) (b:Int->Res) (d:Unit->Res):Res:=bif decide (i<(nI (List.length a))) then bif inb i (List.length a) then bif decide ((Z9K (left-(nI (ByteArray.size (nth eS a i)))))<0) then d () else rec (Z9K (left-(nI (ByteArray.size (nth eS a i))))) (Z9K (i+1)) else none else b left
def ja0 (a:qL):(Int×Int)->(Int×Int->Res)->((Int->Res)×(Unit->Res))->Res:=λv rec q=>j1K a v.1 v.2 (λleft i=>rec (left,i)) q.1 q.2
def j7L (a:qL) (n:Nat) (left:Int) (i:Int) (b:Int->Res) (d:Unit->Res):Res:=Z1f (ja0 a) n (left,i) (b,d)
def jaY:Z1d Unit:=NdL 28 28 [.R 0 y0 .S,.I 1,.I 5] [] (λd f=>(d.2.1,d.2.2.1)) (λd v=>(d.1,v.1,v.2,())) (λf v=>()) (λd f=>ja0 d.1) λd f g=>((λb=>g (.exit 0) [(1,vI b)] []),(λ_=>g .ret [(4,vI (-1))] []))
theorem jgb:CN 0 122 Tryz.f82 jaY:=lK Zas [] oN ([],[]) [(0,[1],[])] ([4],[]) λ_ _ _ _ _=>by kernel_rfl
def j58 (a:qL) (left:Int) (d:Int->Res):Res:=bif decide ((Z9K (left-(nI (List.length a))))<0) then d (-1) else j7L a Z1c (Z9K (left-(nI (List.length a)))) 0 (λb=>d b) (λ_=>d (-1))
def jcl:Sig Unit:=sg [.look y0 false,.look tI false] [false] [(y0,none),(tI,none)] [] λb f k=>j58 b.1 b.2.1 (λd=>k [wI d] [] [])
theorem jhi:SO 82 jcl:=fK (np:=0) Zas [jaY] (oI 122 0 @jgb oN) false Tryz.func82 λ_ _ _ _=>by kernel_rfl
def j1L (a:qL) (b:qL) (i:Int) (rec:qL->Int->Res) (d:qL->Res):Res:=bif decide (i<(nI (List.length a))) then bif inb i (List.length a) then bif inb i (List.length b) then rec (upd b i (nth eS a i)) (Z9K (i+1)) else none else none else d b
def j6q (a:qL):(qL×Int)->(qL×Int->Res)->((qL->Res))->Res:=λv rec q=>j1L a v.1 v.2 (λb i=>rec (b,i)) q
def jgL (a:qL) (n:Nat) (b:qL) (i:Int) (d:qL->Res):Res:=Z1f (j6q a) n (b,i) (d)
def jaZ:Z1d Unit:=NdL 22 22 [.R 0 y0 .S,.R 3 y0 .O,.I 4] [] (λb f=>(b.2.1,b.2.2.1)) (λb v=>(b.1,v.1,v.2,())) (λf v=>()) (λb f=>j6q b.1) λb f g=>((λd=>g (.exit 0) [(3,v1 y0 d .O)] []))
theorem jgc:CN 0 58 Tryz.f88 jaZ:=lK Zas [] oN ([],[]) [(0,[3],[])] ([],[]) λ_ _ _ _ _=>by kernel_rfl
def j59 (a:qL) (d:qL->Res):Res:=bif Z9I (nI (List.length a)) (nI (List.length a)) then jgL a Z1c (Z9h (nI (List.length a)) eS) 0 λb=>d b else none
def jcm:Sig Unit:=sg [.borrow y0 false] [false] [(y0,none)] [] λd f k=>j59 d.1 (λb=>k [w1 y0 b .O] [] [])
theorem jhj:SO 88 jcm:=fK (np:=0) Zas [jaZ] (oI 58 0 @jgc oN) false Tryz.func88 λ_ _ _ _=>by kernel_rfl
def j1J (a:qL) (b:qL) (i:Int) (rec:Int->Res) (d:Unit->Res) (f:Unit->Res):Res:=bif decide (i<(nI (List.length a))) then bif inb i (List.length a) then bif inb i (List.length b) then bif sNe (nth eS a i) (nth eS b i) then f () else rec (Z9K (i+1)) else none else none else d ()
def j9Z (a:qL) (b:qL):Int->(Int->Res)->((Unit->Res)×(Unit->Res))->Res:=λv rec q=>j1J a b v (λi=>rec (i)) q.1 q.2
def jbt (a:qL) (b:qL) (n:Nat) (i:Int) (d:Unit->Res) (f:Unit->Res):Res:=Z1f (j9Z a b) n (i) (d,f)
def jaX:Z1d Unit:=NdL 26 26 [.R 0 y0 .S,.R 1 y0 .S,.I 5] [] (λb d=>(b.2.2.1)) (λb v=>(b.1,b.2.1,v,())) (λd v=>()) (λb d=>j9Z b.1 b.2.1) λb d f=>((λ_=>f (.exit 0) [] []),(λ_=>f .ret [(4,vB false)] []))
theorem jga:CN 0 58 Tryz.f97 jaX:=lK Zas [] oN ([],[]) [(0,[],[])] ([4],[]) λ_ _ _ _ _=>by kernel_rfl
def j57 (a:qL) (b:qL) (d:Bool->Res):Res:=bif ((nI (List.length a)) != (nI (List.length b))) then d false else jbt a b Z1c 0 (λ_=>d true) (λ_=>d false)
def jck:Sig Unit:=sg [.look y0 false,.look y0 false] [false] [(y0,none),(y0,none)] [] λb f k=>j57 b.1 b.2.1 (λd=>k [wB d] [] [])
theorem jhh:SO 97 jck:=fK (np:=0) Zas [jaX] (oI 58 0 @jga oN) false Tryz.func97 λ_ _ _ _=>by kernel_rfl
end
end Go.PI.G
namespace Go.PI.G
noncomputable section
open Go Go.PI Go.Proofs
open Go.Code (pl pr)
def j7t (a:qG) (left:Int) (b:Int->Res):Res:=bif decide ((Z9K (left-(nI (ByteArray.size a.2.1))))<0) then b (-1) else j84 a.2.2.1 (Z9K (left-(nI (ByteArray.size a.2.1)))) λr=>bif decide (r<0) then b (-1) else j58 a.2.2.2.1 r λd=>bif decide (d<0) then b (-1) else bif decide ((Z9K (d-(nI (ByteArray.size a.2.2.2.2.1))))<0) then b (-1) else bif decide ((Z9K ((Z9K (d-(nI (ByteArray.size a.2.2.2.2.1))))-(nI (ByteArray.size a.2.2.2.2.2))))<0) then b (-1) else b (Z9K ((Z9K (d-(nI (ByteArray.size a.2.2.2.2.1))))-(nI (ByteArray.size a.2.2.2.2.2))))
def jgr:Sig Unit:=sg [.look y13 true,.look tI false] [false] [(y13,none),(tI,none)] [] λb f k=>j7t b.1 b.2.1 (λd=>k [wI d] [] [])
theorem jlq:SO 185 jgr:=fK (np:=0) (Za6 jhi (Za6 jky Zas)) [] oN false Tryz.func185 λ_ _ _ _=>by delta j7t jfm jcl;refine gz j84 λ_ b=>gz j58 λ_ d=> ?_;rewrite [<-b,<-d];kernel_rfl
def j7u (a:qG) (b:qG->Res):Res:=j87 a.2.2.1 λr=>j59 a.2.2.2.1 λd=>b (a.1,a.2.1,r,d,a.2.2.2.2.1,a.2.2.2.2.2)
def jgt:Sig Unit:=sg [.borrow y13 true] [true] [(y13,none)] [] λd f k=>j7u d.1 (λb=>k [⟨y13,true,b,[.O,.O]⟩] [] [])
theorem jls:SO 194 jgt:=fK (np:=0) (Za6 jhj (Za6 jkB Zas)) [] oN false Tryz.func194 λ_ _ _ _=>by delta j7u jfp jcm;refine gz j87 λ_ b=>gz j59 λ_ d=> ?_;rewrite [<-b,<-d];kernel_rfl
def j7s (a:qG) (b:qG) (d:Bool->Res):Res:=bif (a.1 != b.1) then d false else bif sNe a.2.1 b.2.1 then d false else j81 a.2.2.1 b.2.2.1 λr=>bif !r then d false else j57 a.2.2.2.1 b.2.2.2.1 λf=>bif !f then d false else bif sNe a.2.2.2.2.1 b.2.2.2.2.1 then d false else bif sNe a.2.2.2.2.2 b.2.2.2.2.2 then d false else d true
def jgp:Sig Unit:=sg [.look y13 true,.look y13 true] [false] [(y13,none),(y13,none)] [] λb f k=>j7s b.1 b.2.1 (λd=>k [wB d] [] [])
theorem jlo:SO 200 jgp:=fK (np:=0) (Za6 jhh (Za6 jkv Zas)) [] oN false Tryz.func200 λ_ _ _ _=>by delta j7s jfj jck;refine gz j81 λ_ b=>gz j57 λ_ d=> ?_;rewrite [<-b,<-d];kernel_rfl
end
end Go.PI.G
namespace Go.PI.G
noncomputable section
open Go Go.PI Go.Proofs
open Go.Code (pl pr)
def j3o (a:List qV) (left:Int) (i:Int) (rec:Int->Int->Res) (b:Int->Res) (d:Unit->Res):Res:=bif decide (i<(nI (List.length a))) then bif inb i (List.length a) then j9k (nth (0,0,eS) a i) left λr=>bif decide (r<0) then d () else rec r (Z9K (i+1)) else none else b left
def jcd (a:List qV):(Int×Int)->(Int×Int->Res)->((Int->Res)×(Unit->Res))->Res:=λv rec q=>j3o a v.1 v.2 (λleft i=>rec (left,i)) q.1 q.2
def jai (a:List qV) (n:Nat) (left:Int) (i:Int) (b:Int->Res) (d:Unit->Res):Res:=Z1f (jcd a) n (left,i) (b,d)
def jde:Z1d Unit:=NdL 27 27 [.R 0 y3 .S,.I 1,.I 5] [] (λd f=>(d.2.1,d.2.2.1)) (λd v=>(d.1,v.1,v.2,())) (λf v=>()) (λd f=>jcd d.1) λd f g=>((λb=>g (.exit 0) [(1,vI b)] []),(λ_=>g .ret [(4,vI (-1))] []))
theorem jiC:CN 0 122 Tryz.f37 jde:=lK (Za6 jbS Zas) [] oN ([],[]) [(0,[1],[])] ([4],[]) λ_ _ _ _ _=>by kernel_rfl
def j6j (a:List qV) (left:Int) (d:Int->Res):Res:=bif decide ((Z9K (left-(nI (List.length a))))<0) then d (-1) else jai a Z1c (Z9K (left-(nI (List.length a)))) 0 (λb=>d b) (λ_=>d (-1))
def jfo:Sig Unit:=sg [.look y3 false,.look tI false] [false] [(y3,none),(tI,none)] [] λb f k=>j6j b.1 b.2.1 (λd=>k [wI d] [] [])
theorem jfb:SO 37 jfo:=fK (np:=0) (Za6 jbS Zas) [jde] (oI 122 0 @jiC oN) false Tryz.func37 λ_ _ _ _=>by kernel_rfl
def j3r (a:List qV) (b:List qV) (i:Int) (rec:qW->Int->Res) (d:qW->Res):Res:=bif decide (i<(nI (List.length a))) then bif inb i (List.length a) then j9m (nth (0,0,eS) a i) λr=>bif inb i (List.length b) then rec (upd b i r) (Z9K (i+1)) else none else none else d b
def j8w (a:List qV):(qW×Int)->(qW×Int->Res)->((qW->Res))->Res:=λv rec q=>j3r a v.1 v.2 (λb i=>rec (b,i)) q
def jjp (a:List qV) (n:Nat) (b:List qV) (i:Int) (d:qW->Res):Res:=Z1f (j8w a) n (b,i) (d)
def jdh:Z1d Unit:=NdL 23 23 [.R 0 y3 .S,.R 3 y3 .O,.I 4] [] (λb f=>(b.2.1,b.2.2.1)) (λb v=>(b.1,v.1,v.2,())) (λf v=>()) (λb f=>j8w b.1) λb f g=>((λd=>g (.exit 0) [(3,v1 y3 d .O)] []))
theorem jiF:CN 0 58 Tryz.f39 jdh:=lK (Za6 jbT Zas) [] oN ([],[]) [(0,[3],[])] ([],[]) λ_ _ _ _ _=>by kernel_rfl
def j6k (a:List qV) (d:qW->Res):Res:=bif Z9I (nI (List.length a)) (nI (List.length a)) then jjp a Z1c (Z9h (nI (List.length a)) (0,0,eS)) 0 λb=>d b else none
def jfr:Sig Unit:=sg [.borrow y3 false] [false] [(y3,none)] [] λd f k=>j6k d.1 (λb=>k [w1 y3 b .O] [] [])
theorem jfc:SO 39 jfr:=fK (np:=0) (Za6 jbT Zas) [jdh] (oI 58 0 @jiF oN) false Tryz.func39 λ_ _ _ _=>by kernel_rfl
def j3l (a:List qV) (b:List qV) (i:Int) (rec:Int->Res) (d:Unit->Res) (f:Unit->Res):Res:=bif decide (i<(nI (List.length a))) then bif inb i (List.length a) then bif inb i (List.length b) then j9i (nth (0,0,eS) a i) (nth (0,0,eS) b i) λr=>bif !r then f () else rec (Z9K (i+1)) else none else none else d ()
def jca (a:List qV) (b:List qV):Int->(Int->Res)->((Unit->Res)×(Unit->Res))->Res:=λv rec q=>j3l a b v (λi=>rec (i)) q.1 q.2
def jed (a:List qV) (b:List qV) (n:Nat) (i:Int) (d:Unit->Res) (f:Unit->Res):Res:=Z1f (jca a b) n (i) (d,f)
def jdb:Z1d Unit:=NdL 27 27 [.R 0 y3 .S,.R 1 y3 .S,.I 5] [] (λb d=>(b.2.2.1)) (λb v=>(b.1,b.2.1,v,())) (λd v=>()) (λb d=>jca b.1 b.2.1) λb d f=>((λ_=>f (.exit 0) [] []),(λ_=>f .ret [(4,vB false)] []))
theorem jiz:CN 0 58 Tryz.f41 jdb:=lK (Za6 jbR Zas) [] oN ([],[]) [(0,[],[])] ([4],[]) λ_ _ _ _ _=>by kernel_rfl
def j6i (a:List qV) (b:List qV) (d:Bool->Res):Res:=bif ((nI (List.length a)) != (nI (List.length b))) then d false else jed a b Z1c 0 (λ_=>d true) (λ_=>d false)
def jfl:Sig Unit:=sg [.look y3 false,.look y3 false] [false] [(y3,none),(y3,none)] [] λb f k=>j6i b.1 b.2.1 (λd=>k [wB d] [] [])
theorem jfa:SO 41 jfl:=fK (np:=0) (Za6 jbR Zas) [jdb] (oI 58 0 @jiz oN) false Tryz.func41 λ_ _ _ _=>by kernel_rfl
end
end Go.PI.G
namespace Go.PI.G
noncomputable section
open Go Go.PI Go.Proofs
open Go.Code (pl pr)
def j9j (a:List qV) (left:Int) (b:Int->Res):Res:=j6j a left λr=>bif decide (r<0) then b (-1) else b r
def jgs:Sig Unit:=sg [.look y3 true,.look tI false] [false] [(y3,none),(tI,none)] [] λb f k=>j9j b.1 b.2.1 (λd=>k [wI d] [] [])
theorem jlr:SO 184 jgs:=fK (np:=0) (Za6 jfb Zas) [] oN false Tryz.func184 λ_ _ _ _=>by kernel_rfl
def j9l (a:List qV) (b:qW->Res):Res:=j6k a λr=>b r
def jgu:Sig Unit:=sg [.borrow y3 true] [true] [(y3,none)] [] λd f k=>j9l d.1 (λb=>k [⟨y3,true,b,[.O]⟩] [] [])
theorem jlt:SO 193 jgu:=fK (np:=0) (Za6 jfc Zas) [] oN false Tryz.func193 λ_ _ _ _=>by kernel_rfl
def j9h (a:List qV) (b:List qV) (d:Bool->Res):Res:=j6i a b λr=>bif !r then d false else d true
def jgq:Sig Unit:=sg [.look y3 true,.look y3 true] [false] [(y3,none),(y3,none)] [] λb f k=>j9h b.1 b.2.1 (λd=>k [wB d] [] [])
theorem jlp:SO 50 jgq:=fK (np:=0) (Za6 jfa Zas) [] oN false Tryz.func50 λ_ _ _ _=>by kernel_rfl
end
end Go.PI.G
namespace Go.PI.G
noncomputable section
open Go Go.PI Go.Proofs
open Go.Code (pl pr)
def j86 (a:qS) (left:Int) (b:Int->Res):Res:=bif decide ((Z9K (left-(nI (ByteArray.size a.2.1))))<0) then b (-1) else j6j a.2.2.1 (Z9K (left-(nI (ByteArray.size a.2.1)))) λr=>bif decide (r<0) then b (-1) else j9j a.2.2.2.1 r λd=>bif decide (d<0) then b (-1) else j7t a.2.2.2.2 d λf=>bif decide (f<0) then b (-1) else b f
def jl8:Sig Unit:=sg [.look y17 true,.look tI false] [false] [(y17,none),(tI,none)] [] λb f k=>j86 b.1 b.2.1 (λd=>k [wI d] [] [])
theorem jkA:SO 132 jl8:=fK (np:=0) (Za6 jfb (Za6 jlr (Za6 jlq Zas))) [] oN false Tryz.func132 λ_ _ _ _=>by delta j86 jfo jgs jgr;refine gz j6j λ_ b=>gz j9j λ_ d=>gz j7t λ_ f=> ?_;rewrite [<-b,<-d,<-f];kernel_rfl
def j88 (a:qS) (b:qS->Res):Res:=j6k a.2.2.1 λr=>j9l a.2.2.2.1 λd=>j7u a.2.2.2.2 λf=>b (a.1,a.2.1,r,d,f)
def jl9:Sig Unit:=sg [.borrow y17 true] [true] [(y17,none)] [] λd f k=>j88 d.1 (λb=>k [⟨y17,true,b,[.O,.O,.O,.O]⟩] [] [])
theorem jkD:SO 137 jl9:=fK (np:=0) (Za6 jfc (Za6 jlt (Za6 jls Zas))) [] oN false Tryz.func137 λ_ _ _ _=>by delta j88 jfr jgu jgt;refine gz j6k λ_ b=>gz j9l λ_ d=>gz j7u λ_ f=> ?_;rewrite [<-b,<-d,<-f];kernel_rfl
def j83 (a:qS) (b:qS) (d:Bool->Res):Res:=bif (a.1 != b.1) then d false else bif sNe a.2.1 b.2.1 then d false else j6i a.2.2.1 b.2.2.1 λr=>bif !r then d false else j9h a.2.2.2.1 b.2.2.2.1 λf=>bif !f then d false else j7s a.2.2.2.2 b.2.2.2.2 λg=>bif !g then d false else d true
def jl7:Sig Unit:=sg [.look y17 true,.look y17 true] [false] [(y17,none),(y17,none)] [] λb f k=>j83 b.1 b.2.1 (λd=>k [wB d] [] [])
theorem jkx:SO 140 jl7:=fK (np:=0) (Za6 jfa (Za6 jlp (Za6 jlo Zas))) [] oN false Tryz.func140 λ_ _ _ _=>by delta j83 jfl jgq jgp;refine gz j6i λ_ b=>gz j9h λ_ d=>gz j7s λ_ f=> ?_;rewrite [<-b,<-d,<-f];kernel_rfl
end
end Go.PI.G
namespace Go.PI.G
noncomputable section
open Go Go.PI Go.Proofs
open Go.Code (pl pr)
def jbC (a:Int×Int×qS) (left:Int) (b:Int->Res):Res:=j86 a.2.2 left λr=>bif decide (r<0) then b (-1) else b r
def jmi:Sig Unit:=sg [.look y19 true,.look tI false] [false] [(y19,none),(tI,none)] [] λb f k=>jbC b.1 b.2.1 (λd=>k [wI d] [] [])
theorem jfS:SO 75 jmi:=fK (np:=0) (Za6 jkA Zas) [] oN false Tryz.func75 λ_ _ _ _=>by kernel_rfl
def jbE (a:Int×Int×qS) (b:qP->Res):Res:=j88 a.2.2 λr=>b (a.1,a.2.1,r)
def jml:Sig Unit:=sg [.borrow y19 true] [true] [(y19,none)] [] λd f k=>jbE d.1 (λb=>k [⟨y19,true,b,[.O,.O,.O,.O]⟩] [] [])
theorem jfU:SO 77 jml:=fK (np:=0) (Za6 jkD Zas) [] oN false Tryz.func77 λ_ _ _ _=>by kernel_rfl
def jbA (a:Int×Int×qS) (b:Int×Int×qS) (d:Bool->Res):Res:=bif (a.1 != b.1) then d false else bif (a.2.1 != b.2.1) then d false else j83 a.2.2 b.2.2 λr=>bif !r then d false else d true
def jmf:Sig Unit:=sg [.look y19 true,.look y19 true] [false] [(y19,none),(y19,none)] [] λb f k=>jbA b.1 b.2.1 (λd=>k [wB d] [] [])
theorem jfQ:SO 79 jmf:=fK (np:=0) (Za6 jkx Zas) [] oN false Tryz.func79 λ_ _ _ _=>by kernel_rfl
end
end Go.PI.G
namespace Go.PI.G
noncomputable section
open Go Go.PI Go.Proofs
open Go.Code (pl pr)
def j3n (a:List qP) (left:Int) (i:Int) (rec:Int->Int->Res) (b:Int->Res) (d:Unit->Res):Res:=bif decide (i<(nI (List.length a))) then bif inb i (List.length a) then jbC (nth (0,0,0,eS,[],[],0,eS,[],[],eS,eS) a i) left λr=>bif decide (r<0) then d () else rec r (Z9K (i+1)) else none else b left
def jcc (a:List qP):(Int×Int)->(Int×Int->Res)->((Int->Res)×(Unit->Res))->Res:=λv rec q=>j3n a v.1 v.2 (λleft i=>rec (left,i)) q.1 q.2
def jah (a:List qP) (n:Nat) (left:Int) (i:Int) (b:Int->Res) (d:Unit->Res):Res:=Z1f (jcc a) n (left,i) (b,d)
def jdd:Z1d Unit:=NdL 27 27 [.R 0 y20 .S,.I 1,.I 5] [] (λd f=>(d.2.1,d.2.2.1)) (λd v=>(d.1,v.1,v.2,())) (λf v=>()) (λd f=>jcc d.1) λd f g=>((λb=>g (.exit 0) [(1,vI b)] []),(λ_=>g .ret [(4,vI (-1))] []))
theorem jiB:CN 0 122 Tryz.f26 jdd:=lK (Za6 jfS Zas) [] oN ([],[]) [(0,[1],[])] ([4],[]) λ_ _ _ _ _=>by kernel_rfl
def j85 (a:List qP) (left:Int) (d:Int->Res):Res:=bif decide ((Z9K (left-(nI (List.length a))))<0) then d (-1) else jah a Z1c (Z9K (left-(nI (List.length a)))) 0 (λb=>d b) (λ_=>d (-1))
def jfn:Sig Unit:=sg [.look y20 false,.look tI false] [false] [(y20,none),(tI,none)] [] λb f k=>j85 b.1 b.2.1 (λd=>k [wI d] [] [])
theorem jkz:SO 26 jfn:=fK (np:=0) (Za6 jfS Zas) [jdd] (oI 122 0 @jiB oN) false Tryz.func26 λ_ _ _ _=>by kernel_rfl
def j3q (a:List qP) (b:List qP) (i:Int) (rec:(List qP)->Int->Res) (d:(List qP)->Res):Res:=bif decide (i<(nI (List.length a))) then bif inb i (List.length a) then jbE (nth (0,0,0,eS,[],[],0,eS,[],[],eS,eS) a i) λr=>bif inb i (List.length b) then rec (upd b i r) (Z9K (i+1)) else none else none else d b
def j8v (a:List qP):((List qP)×Int)->((List qP)×Int->Res)->(((List qP)->Res))->Res:=λv rec q=>j3q a v.1 v.2 (λb i=>rec (b,i)) q
def jjo (a:List qP) (n:Nat) (b:List qP) (i:Int) (d:(List qP)->Res):Res:=Z1f (j8v a) n (b,i) (d)
def jdg:Z1d Unit:=NdL 23 23 [.R 0 y20 .S,.R 3 y20 .O,.I 4] [] (λb f=>(b.2.1,b.2.2.1)) (λb v=>(b.1,v.1,v.2,())) (λf v=>()) (λb f=>j8v b.1) λb f g=>((λd=>g (.exit 0) [(3,v1 y20 d .O)] []))
theorem jiE:CN 0 58 Tryz.f28 jdg:=lK (Za6 jfU Zas) [] oN ([],[]) [(0,[3],[])] ([],[]) λ_ _ _ _ _=>by kernel_rfl
def j4x (a:List qP) (d:(List qP)->Res):Res:=bif Z9I (nI (List.length a)) (nI (List.length a)) then jjo a Z1c (Z9h (nI (List.length a)) (0,0,0,eS,[],[],0,eS,[],[],eS,eS)) 0 λb=>d b else none
def jfq:Sig Unit:=sg [.borrow y20 false] [false] [(y20,none)] [] λd f k=>j4x d.1 (λb=>k [w1 y20 b .O] [] [])
theorem jkC:SO 28 jfq:=fK (np:=0) (Za6 jfU Zas) [jdg] (oI 58 0 @jiE oN) false Tryz.func28 λ_ _ _ _=>by kernel_rfl
def j3k (a:List qP) (b:List qP) (i:Int) (rec:Int->Res) (d:Unit->Res) (f:Unit->Res):Res:=bif decide (i<(nI (List.length a))) then bif inb i (List.length a) then bif inb i (List.length b) then jbA (nth (0,0,0,eS,[],[],0,eS,[],[],eS,eS) a i) (nth (0,0,0,eS,[],[],0,eS,[],[],eS,eS) b i) λr=>bif !r then f () else rec (Z9K (i+1)) else none else none else d ()
def jc9 (a:List qP) (b:List qP):Int->(Int->Res)->((Unit->Res)×(Unit->Res))->Res:=λv rec q=>j3k a b v (λi=>rec (i)) q.1 q.2
def jec (a:List qP) (b:List qP) (n:Nat) (i:Int) (d:Unit->Res) (f:Unit->Res):Res:=Z1f (jc9 a b) n (i) (d,f)
def jda:Z1d Unit:=NdL 27 27 [.R 0 y20 .S,.R 1 y20 .S,.I 5] [] (λb d=>(b.2.2.1)) (λb v=>(b.1,b.2.1,v,())) (λd v=>()) (λb d=>jc9 b.1 b.2.1) λb d f=>((λ_=>f (.exit 0) [] []),(λ_=>f .ret [(4,vB false)] []))
theorem jiy:CN 0 58 Tryz.f30 jda:=lK (Za6 jfQ Zas) [] oN ([],[]) [(0,[],[])] ([4],[]) λ_ _ _ _ _=>by kernel_rfl
def j82 (a:List qP) (b:List qP) (d:Bool->Res):Res:=bif ((nI (List.length a)) != (nI (List.length b))) then d false else jec a b Z1c 0 (λ_=>d true) (λ_=>d false)
def jfk:Sig Unit:=sg [.look y20 false,.look y20 false] [false] [(y20,none),(y20,none)] [] λb f k=>j82 b.1 b.2.1 (λd=>k [wB d] [] [])
theorem jkw:SO 30 jfk:=fK (np:=0) (Za6 jfQ Zas) [jda] (oI 58 0 @jiy oN) false Tryz.func30 λ_ _ _ _=>by kernel_rfl
end
end Go.PI.G
namespace Go.PI.G
open Go Go.PI Go.Proofs
open Go.Code (pl pr)
noncomputable def j2C (d:List qP) (b:Int) (f:Bool->Res):Res:=j85 d 1048576 λr=>bif decide (r<0) then f true else j4x d λh=>j7z h b λi=>j4x d λg=>j7n g b λj=>bif (j != i) then f false else j4x d λk=>j82 g k λl=>bif !l then f false else f true
noncomputable def j1M:Sig Unit:=⟨[.borrow y20 false,.borrow tI false],[false],λvals ext k=>av vals y20 λd vals=>av vals tI λb vals=>nl vals<|nl ext<|j2C d b (λf=>k [wB f] [] [])⟩
theorem jfB:Z17 Tryz.prog 5 j1M:=jpF (np:=0) follows j2o (Za6 jkz (Za6 jkC (Za6 jkw (Za6 jlu (Za6 jll Zas))))) [] oN false Tryz.func5 λ_ _ k _ h=>aV h λ_ _ _ _ _ h=>aV h λ_ _ _ _ _ h=>nL h λ_ h=>nL h λ_ h=>by subst_vars;exact .trans (by delta j2C jfn jfq jgx jgo jfk;refine gz j85 λ_ b=>gz j4x λ_ d=>gz j7z λ_ f=>gz j7n λ_ g=>gz j82 λ_ i=> ?_;rewrite [<-b,<-d,<-f,<-g,<-i];kernel_rfl) h
end Go.PI.G
namespace Go.PI.G
open Go Go.PI
abbrev V:=Int×Int×ByteArray
theorem jaP (s:ByteArray):(Z1n s).length=s.size:=by unfold Z1n;simp
theorem j09 (a b:ByteArray):sEq a b=true↔a=b:=by
 unfold sEq
 rw [beq_iff_eq]
 constructor
 ·intro h
  rw [ByteArray.ext_iff]
  have d:a.toList=a.data.toList:=by rw [ByteArray.toList_eq]
  have f:b.toList=b.data.toList:=by rw [ByteArray.toList_eq]
  rw [d,f] at h
  exact Array.toList_inj.1 h
 ·rintro rfl;rfl
def jm7 (n:Int):Bool:=decide (-1099511627775<=n/\n<=1099511627775)
def j0l (v:V):Bool:=
 bif v.1==0 then (v.2.1==0)&&sEq v.2.2 eS
 else bif v.1==1 then ((v.2.1==0)||(v.2.1==1))&&sEq v.2.2 eS
 else bif v.1==2 then jm7 v.2.1&&sEq v.2.2 eS
 else bif v.1==3 then (v.2.1==0)&&decide (nI v.2.2.size<=30)
 else false
theorem jop (x:Int):decide (0<=x/\x<=1)=((x==0)||(x==1)):=by
 by_cases h:0<=x/\x<=1
 ·rw [decide_eq_true h]
  have:x=0\/x=1:=by omega
  rcases this with rfl | rfl<;>rfl
 ·rw [decide_eq_false h]
  have b:(x==0)=false:=by simp;omega
  have d:(x==1)=false:=by simp;omega
  rw [b,d];rfl
theorem jeW {v:V} (h:j0l v=true):v=(0,0,eS)\/(∃ n,(n=0\/n=1)/\v=(1,n,eS))\/(∃ n,(-1099511627775<=n/\n<=1099511627775)/\v=(2,n,eS))\/∃ s:ByteArray,s.size<=30/\v=(3,0,s):=by
 obtain ⟨t,n,s⟩:=v
 unfold j0l at h
 simp only at h
 cases d:t==0
 ·cases f:t==1
  ·cases g:t==2
   ·cases i:t==3
    ·rw [d,f,g,i] at h;cases h
    ·rw [d,f,g,i] at h
     simp only [cond_false,cond_true,Bool.and_eq_true,beq_iff_eq,decide_eq_true_eq] at h i
     obtain ⟨rfl,h⟩:=h
     subst i
     exact .inr (.inr (.inr ⟨s,by unfold nI at h;omega,rfl⟩))
   ·rw [d,f,g] at h
    simp only [cond_false,cond_true,Bool.and_eq_true,beq_iff_eq] at h g
    obtain ⟨h,b⟩:=h
    rw [j09] at b
    subst b;subst g
    exact .inr (.inr (.inl ⟨n,of_decide_eq_true h,rfl⟩))
  ·rw [d,f] at h
   simp only [cond_false,cond_true,Bool.and_eq_true,Bool.or_eq_true,beq_iff_eq] at h f
   obtain ⟨h,b⟩:=h
   rw [j09] at b
   subst b;subst f
   exact .inr (.inl ⟨n,h,rfl⟩)
 ·rw [d] at h
  simp only [cond_true,Bool.and_eq_true,beq_iff_eq] at h d
  obtain ⟨h,b⟩:=h
  rw [j09] at b
  subst b;subst d;subst h
  exact .inl rfl
theorem joH {v:V} (h:j0l v=true):v.2.2.size<=30:=by
 rcases jeW h with rfl | ⟨n,_,rfl⟩ | ⟨n,_,rfl⟩ | ⟨s,b,rfl⟩
 ·show (0:Nat)<=30;omega
 ·show (0:Nat)<=30;omega
 ·show (0:Nat)<=30;omega
 ·exact b
def be (n:Nat):Nat->List Int
 | 0=>[]
 | s+1=>((n / 256 ^ s % 256:Nat):Int)::be n s
theorem jnY (n:Nat):(s:Nat)->(be n s).length=s
 | 0=>rfl
 | s+1=>by simp [be,jnY n s]
noncomputable def wB (v:V):List Int:=
 bif v.1==1 then [1,v.2.1]
 else bif v.1==2 then 2::(bif decide (v.2.1<0) then 1 else 0)::be v.2.1.natAbs 6
 else bif v.1==3 then 3::nI v.2.2.size::Z1n v.2.2
 else [0]
theorem jqc {v:V} (h:j0l v=true):(wB v).length<=32:=by
 rcases jeW h with rfl | ⟨n,_,rfl⟩ | ⟨n,_,rfl⟩ | ⟨s,b,rfl⟩
 ·show (1:Nat)<=32;omega
 ·show (2:Nat)<=32;omega
 ·show (2::(bif decide (n<0) then 1 else 0)::be n.natAbs 6).length<=32
  simp [jnY]
 ·show (3::nI s.size::Z1n s).length<=32
  simp [jaP];omega
theorem ja9:(l:List V)->(∀ v∈l,j0l v=true)->(l.flatMap wB).length<=32 * l.length
 | [],_=>by simp
 | v::l,h=>by
  have d:=jqc (h v (by simp))
  have f:=ja9 l λv b=>h v (List.mem_cons_of_mem _ b)
  simp only [List.flatMap_cons,List.length_append,List.length_cons]
  omega
end Go.PI.G
set_option linter.unusedSimpArgs false
namespace Go.PI.G
open Go Go.PI Go.Proofs
theorem j4t (x b d:Int) (k:Bool->Res):j0a x b d k=k (decide (b<=x/\x<=d)):=by
 unfold j0a
 by_cases h:x>=b
 ·rw [decide_eq_true h,cond_true]
  congr 1
  exact decide_eq_decide.2 (by omega)
 ·rw [decide_eq_false h,cond_false]
  congr 1
  exact (decide_eq_false (by omega)).symm
end Go.PI.G
namespace Go.PI.G
open Go Go.PI Go.Proofs
theorem jok (n:Int) (k:Bool->Res):jdH n k=k (jm7 n):=j4t n _ _ k
theorem j7x (v:V) (k:Bool->Res):j18 v k=k (j0l v):=by
 unfold j18 j0l
 cases v.1==0
 ·cases v.1==1
  ·cases v.1==2
   ·cases v.1==3
    ·rfl
    ·cases v.2.1==0<;>rfl
   ·rw [cond_false,cond_false,cond_true,jok]
    cases jm7 v.2.1<;>rfl
  ·cases v.2.1==0
   ·cases v.2.1==1<;>rfl
   ·rfl
 ·cases v.2.1==0<;>rfl
theorem j7l (v:V) (k:Bool->Res):j0U v k=k (j0l v):=by
 unfold j0U j0l
 simp only [j4t,jop]
 cases v.1==0
 ·cases v.1==1
  ·cases v.1==2
   ·cases v.1==3
    ·rfl
    ·cases v.2.1==0<;>rfl
   ·rw [cond_false,cond_false,cond_true,cond_false,cond_false,cond_true]
    show (bif jm7 v.2.1 then _ else _)=_
    cases jm7 v.2.1<;>rfl
  ·cases v.2.1==0
   ·cases v.2.1==1<;>rfl
   ·rfl
 ·cases v.2.1==0<;>rfl
end Go.PI.G
namespace Go.PI.G
noncomputable section
open Go Go.PI
def msr:(τ:Ty)->El τ->Nat
 | .str,s=>ByteArray.size s
 | .slice e,l=>List.length (α:=El e) l+(List.map (msr e) l).sum
 | .pair a b,x=>msr a x.1+msr b x.2
 | .int _,_=>0
 | .bool,_=>0
 | .unit,_=>0
def wgt:(τ:Ty)->El τ->Nat
 | .str,_=>1
 | .slice e,l=>(List.map (wgt e) l).sum
 | .pair a b,x=>wgt a x.1+wgt b x.2
 | .int _,_=>1
 | .bool,_=>1
 | .unit,_=>0
theorem j91 {a b:Ty} {x:El (.pair a b)}:msr a x.1<=msr (.pair a b) x:=Nat.le_add_right _ _
theorem j07 {a b:Ty} {x:El (.pair a b)}:msr b x.2<=msr (.pair a b) x:=Nat.le_add_left _ _
def dgt (x:Int):ByteArray:=Z3B [wu8 (Z9K (48+x))]
def jq8 (n:Nat):ByteArray:=if h:n<10 then dgt n else jq8 (n / 10)++dgt ((n % 10:Nat):Int)
termination_by n
decreasing_by omega
def mT (k:Int):ByteArray:=(⟨#[109]⟩:ByteArray)++jq8 k.toNat
def mk:(τ:Ty)->El τ->Int->El τ
 | .str,_,k=>mT k
 | .slice e,l,k=>mkL (wgt e) (mk e) l k
 | .pair a b,x,k=>(mk a x.1 k,mk b x.2 (k+(wgt a x.1:Int)))
 | .int .u8,_,k=>wu8 k
 | .int _,_,k=>k
 | .bool,_,k=>(Int.tmod k 3==0)
 | .unit,x,_=>x
theorem jka (e:Ty) (l:List (El e)):msr (.slice e) l=l.length+(l.map (msr e)).sum:=rfl
theorem j0M {e:Ty} {l:List (El e)} {n:Nat} (h:msr (.slice e) l<=n):l.length<=n:=by
 have:msr (.slice e) l=l.length+(l.map (msr e)).sum:=rfl
 omega
theorem j1U {e:Ty} {l:List (El e)} {n:Nat} (h:msr (.slice e) l<=n) {x:El e} (b:x∈l):msr e x<=n:=by
 have d:msr (.slice e) l=l.length+(l.map (msr e)).sum:=rfl
 have:=Z9H (msr e) l x b
 omega
end
end Go.PI.G
namespace Go.PI.G
open Go Go.PI
theorem jpu {left:Int} (h:0<=left):szR left 0=left:=by unfold szR;rw [if_pos (by omega)];omega
theorem jj3 {left:Int} {n rest:Nat} {F:Int->Res} {k:Int->Res} (f:0<=left) (g:left<=1048576) (d:n<=maxLen) (b:(n:Int)<=left->F (left-n)=k (szR (left-n) rest)) :
  (bif decide (Z9K (left-nI n)<0) then k (-1) else F (Z9K (left-nI n)))=k (szR left (n+rest)):=by
 unfold maxLen at d
 rw [ZaH (by unfold nI;omega) (by unfold nI;omega)]
 unfold nI
 by_cases h:(n:Int)<=left
 ·rw [Za4 (by omega),cond_false,b h,Zak h]
 ·rw [Za5 (by omega),cond_true,Zal h]
theorem jes {left:Int} {k:Int->Res} (b:0<=left):k left=k (szR left 0):=by rw [jpu b]
theorem j00 {i n:Nat} (h:i<n):inb (i:Int) n=true:=ZaK (by omega) (by omega)
theorem j01 {n:Int} (h: -9223372036854775808<=n/\n<9223372036854775808):Z9K n=n:=ZaH h.1 h.2
end Go.PI.G
namespace Go.PI.G
noncomputable section
open Go Go.PI
abbrev C:=ByteArray×Int×Bool×Bool×V
abbrev T:=ByteArray×List C×List ByteArray
abbrev DB:=List T×List (List (List V))
abbrev yV:Ty:= .pair (.int .i64) (.pair (.int .i64) .str)
abbrev yC:Ty:= .pair .str (.pair (.int .i64) (.pair .bool (.pair .bool yV)))
abbrev yT:Ty:= .pair .str (.pair (.slice yC) (.slice .str))
abbrev yDB:Ty:= .pair (.slice yT) (.slice (.slice (.slice yV)))
abbrev zV:V:=(0,0,eS)
abbrev zC:C:=(eS,0,false,false,0,0,eS)
abbrev zT:T:=(eS,[],[])
theorem jby {α:Type} (p:α->Bool) (l:List α): -1<=Z9F p l/\Z9F p l<(l.length:Int):=by
 unfold Z9F
 cases h:l.findIdx? p with
 | none=>simp only [];omega
 | some i=>
  have:=(List.findIdx?_eq_some_iff_findIdx_eq.1 h).1
  simp only [];omega
theorem jbw {α:Type} {f:Nat->α->Bool}:(l:List α)->(i:Nat)->Z71 f i l=false->∀ (j:Nat) (h:j<l.length),f (i+j) l[j]=false
 | [],_,_,j,h=>by simp at h
 | x::l,i,h,j,b=>by
  simp only [Z71,Bool.or_eq_false_iff] at h
  cases j with
  | zero=>simpa using h.1
  | succ j=>
   have:=jbw l (i+1) h.2 j (by simpa using b)
   rw [show i+(j+1)=i+1+j by omega]
   simpa using this
def j0j (s:ByteArray):Bool:= !((Z1n s).any λb=>decide (b<97)||decide (b>122))&&(decide (1<=s.size)&&decide (s.size<=8))
def veq (a b:V):Bool:=(a.1==b.1)&&((a.2.1==b.2.1)&&sEq a.2.2 b.2.2)
theorem jet (a b:V):veq a b=true↔a=b:=by
 obtain ⟨d,f,g⟩:=a
 obtain ⟨h,i,j⟩:=b
 unfold veq
 simp only [Bool.and_eq_true,beq_iff_eq,j09,Prod.mk.injEq]
def vlt (a b:V):Bool:=j0l a&&(j0l b&&(bif a.1 != b.1 then decide (a.1<b.1) else bif a.2.1 != b.2.1 then decide (a.2.1<b.2.1) else sLt a.2.2 b.2.2))
def jgI (v:V):Bool:=(v.1==0)&&((v.2.1==0)&&sEq v.2.2 eS)
def j0R (c:C):Bool:=j0j c.1&&(decide (1<=c.2.1/\c.2.1<=3)&&(j0l c.2.2.2.2&&(bif c.2.2.2.1 then (c.2.2.2.2.1==c.2.1)||((c.2.2.2.2.1==0)&& !c.2.2.1) else jgI c.2.2.2.2)))
def j02 (l:List C) (n:ByteArray):Int:=Z9F (λc=>sEq c.1 n) l
theorem j7Z (l:List C) (n:ByteArray): -1<=j02 l n/\j02 l n<(l.length:Int):=jby _ _
theorem joG:j0l (0,0,eS)=true:=by
 show (((0:Int)==0)&&sEq eS eS)=true
 rw [Zah];rfl
theorem jnD:jgI (0,0,eS)=true:=by
 show (((0:Int)==0)&&(((0:Int)==0)&&sEq eS eS))=true
 rw [Zah];rfl
def j12 (l:List C):Int->List ByteArray->Bool
 | _,[]=>true
 | b,k::ks=> !decide (j02 l k<=b)&&((nth zC l (j02 l k)).2.2.1&&j12 l (j02 l k) ks)
def j43 (l:List C):Bool:= !Z71 (λi c=> !j0R c||(j02 l c.1 != (i:Int))) 0 l
def j03 (t:T):Bool:=(j0j t.1&&(decide (1<=t.2.1.length)&&(decide (t.2.1.length<=8)&&decide (1<=t.2.2.length))))&&(j43 t.2.1&&j12 t.2.1 (-1) t.2.2)
def j04 (l:List T) (n:ByteArray):Int:=Z9F (λt=>sEq t.1 n) l
def j1Q (c:List T):Bool:=decide (c.length<=6)&& !Z71 (λi t=> !j03 t||(decide (0<i)&&sGe (nth zT c ((i:Int)-1)).1 t.1)) 0 c
def j3b (c:C) (v:V):Bool:=j0l v&&((v.1==c.2.1)||((v.1==0)&& !c.2.2.1))
def j0k (l:List C) (r:List V):Bool:=decide (r.length=l.length)&& !Z71 (λi c=> !j3b c (nth zV r (i:Int))) 0 l
def j05 (t:T) (r:List V):List V:=t.2.2.map λk=>nth zV r (j02 t.2.1 k)
def klt:List V->List V->Bool
 | [],[]=>false
 | [],_::_=>true
 | _::_,[]=>false
 | x::xs,y::ys=>bif veq x y then klt xs ys else vlt x y
def j08 (t:T) (l:List (List V)):Bool:=j03 t&&(decide (l.length<=60)&& !Z71 (λi r=> !j0k t.2.1 r||(decide (0<i)&& !klt (j05 t (nth [] l ((i:Int)-1))) (j05 t r))) 0 l)
def dbB (d:DB):Bool:=j1Q d.1&&(decide (d.2.length=d.1.length)&& !Z71 (λi t=> !j08 t (nth [] d.2 (i:Int))) 0 d.1)
theorem j1w {t:T} (h:j03 t=true):j0j t.1=true/\1<=t.2.1.length/\t.2.1.length<=8/\1<=t.2.2.length/\j43 t.2.1=true/\j12 t.2.1 (-1) t.2.2=true:=by
 unfold j03 at h
 simp only [Bool.and_eq_true,decide_eq_true_eq] at h
 exact ⟨h.1.1,h.1.2.1,h.1.2.2.1,h.1.2.2.2,h.2.1,h.2.2⟩
theorem j13 {l:List C}:(ks:List ByteArray)->(b:Int)-> -1<=b->j12 l b ks=true->∀ k∈ks,0<=j02 l k/\j02 l k<(l.length:Int)
 | [],_,_,_,k,d=>by cases d
 | q::ks,b,i,h,k,d=>by
  simp only [j12,Bool.and_eq_true,Bool.not_eq_true',decide_eq_false_iff_not] at h
  have f:=(jby (λc:C=>sEq c.1 q) l).2
  have g:0<=j02 l q:=by omega
  rcases List.mem_cons.1 d with rfl | d
  ·exact ⟨g,f⟩
  ·exact j13 ks (j02 l q) (by omega) h.2.2 k d
theorem jpP {c:C} (h:j0R c=true):1<=c.2.1/\c.2.1<=3:=by
 unfold j0R at h
 simp only [Bool.and_eq_true,decide_eq_true_eq] at h
 exact h.2.1
theorem jk0 {l:List C} (h:j43 l=true) (i:Nat) (b:i<l.length):j0R l[i]=true:=by
 unfold j43 at h
 have:=jbw l 0 (by simpa using h) i b
 simp only [Bool.or_eq_false_iff,Bool.not_eq_false'] at this
 exact this.1
end
end Go.PI.G
namespace Go.PI.G
open Go Go.PI Go.Proofs
theorem jnZ (s:ByteArray) (i:Nat) (h:i<(Z1n s).length):bt s (i:Int)=(Z1n s)[i]:=by
 have g:=jaP s
 have d:i<s.data.size:=by
  have:i<s.size:=by omega
  exact this
 have f:(Z1n s)[i]=((s.data.toList.map λb:UInt8=>(b.toNat:Int))[i]'(by simpa using d)):=rfl
 rw [f,List.getElem_map]
 unfold bt
 simp [Array.getElem?_eq_getElem d]
theorem jpC (s:ByteArray) (x:Bool) (k:Bool->Res):(bif x then k false else (bif decide ((nI (ByteArray.size s))>=1) then k (decide ((nI (ByteArray.size s))<=8)) else k false))=k (!x&&(decide (1<=s.size)&&decide (s.size<=8))):=by
 cases x
 ·unfold nI
  by_cases b:1<=s.size
  ·rw [cond_false,decide_eq_true (show (s.size:Int)>=1 by omega),cond_true,decide_eq_true b]
   congr 1
   by_cases d:s.size<=8
   ·rw [decide_eq_true (show (s.size:Int)<=8 by omega),decide_eq_true d];rfl
   ·rw [decide_eq_false (show ¬ (s.size:Int)<=8 by omega),decide_eq_false d];rfl
  ·rw [cond_false,decide_eq_false (show ¬ (s.size:Int)>=1 by omega),cond_false,decide_eq_false b];rfl
 ·rfl
theorem j4A (s:ByteArray) (h:s.size<=LIM) (k:Bool->Res):j0y s k=k (j0j s):=by
 unfold j0y jem
 have g:=jaP s
 have:=Za2 (Z1n s) (λi=>i) (λb=>decide (b<97)||decide (b>122)) (step:=j8D s) ((λ(_:Unit)=>bif decide ((nI (ByteArray.size s))>=1) then k (decide ((nI (ByteArray.size s))<=8)) else k false),(λ(_:Unit)=>k false)) (bif decide ((nI (ByteArray.size s))>=1) then k (decide ((nI (ByteArray.size s))<=8)) else k false) (k false) (by omega) (λi rec f=>by
  show j3z s _ _ _ _=_
  unfold j3z
  unfold LIM at h
  have d:i<s.size:=by omega
  rw [ZaQ d,cond_true,j00 d,cond_true,cond_true,jnZ s i f,j01 (n:=(i:Int)+1) (by omega)]
  cases decide ((Z1n s)[i]<97)
  ·cases decide ((Z1n s)[i]>122)<;>rfl
  ·rfl) (λrec=>by
  show j3z s _ _ _ _=_
  unfold j3z
  rw [g,ZaP,cond_false])
 refine this.trans ?_
 exact jpC s _ k
theorem j4w (s:ByteArray) (h:s.size<=LIM) (k:Bool->Res):j0p s k=k (j0j s):=by
 unfold j0p jad
 have j:=jaP s
 have:=Za2 (Z1n s) (λi=>i) (λb=>decide (b<97)||decide (b>122)) (step:=j5L s) ((λ(_:Unit)=>j0a (nI (ByteArray.size s)) 1 8 λ(r:Bool)=>k r),(λ(_:Unit)=>k false)) (j0a (nI (ByteArray.size s)) 1 8 λ(r:Bool)=>k r) (k false) (by omega) (λi rec g=>by
  show j3f s _ _ _ _=_
  unfold j3f
  unfold LIM at h
  have d:i<s.size:=by omega
  rw [ZaQ d,cond_true,j00 d,cond_true,cond_true,jnZ s i g,j01 (n:=(i:Int)+1) (by omega)]
  cases decide ((Z1n s)[i]<97)
  ·cases decide ((Z1n s)[i]>122)<;>rfl
  ·rfl) (λrec=>by
  show j3f s _ _ _ _=_
  unfold j3f
  rw [j,ZaP,cond_false])
 refine this.trans ?_
 rw [j4t]
 have f:decide (1<=nI s.size/\nI s.size<=8)=(decide (1<=s.size)&&decide (s.size<=8)):=by
  rw [<-Bool.decide_and]
  exact decide_eq_decide.2 (by unfold nI;omega)
 rw [f]
 unfold j0j
 cases (Z1n s).any λb=>decide (b<97)||decide (b>122)<;>rfl
end Go.PI.G
namespace Go.PI.G
open Go Go.PI Go.Proofs
theorem jiX (c:C) (h:c.1.size<=LIM) (k:Bool->Res):j4l c k=k (j0R c):=by
 obtain ⟨n,ty,w,r,d⟩:=c
 unfold j4l j0R
 dsimp only at h ⊢
 rw [j4A n h,j7x]
 cases j0j n
 ·rfl
 ·rw [Bool.not_true,cond_false,Bool.true_and]
  by_cases p:1<=ty/\ty<=3
  ·rw [decide_eq_false (show ¬ ty<1 by omega),cond_false,decide_eq_false (show ¬ ty>3 by omega),cond_false,decide_eq_true p,Bool.true_and]
   cases r
   ·rw [Bool.not_false,cond_true,cond_false]
    have:j0l d=false->jgI d=false:=λj=>by
     cases i:jgI d with
     | false=>rfl
     | true=>
      unfold jgI at i
      simp only [Bool.and_eq_true,beq_iff_eq,j09] at i
      have:d=(0,0,eS):=by
       obtain ⟨a,b,c⟩:=d
       simp only at i
       rw [i.1,i.2.1,i.2.2]
      rw [this,joG] at j
      cases j
    cases j:j0l d
    ·rw [Bool.false_and]
     exact congrArg k (this j)
    ·rfl
   ·rw [Bool.not_true,cond_false,cond_true]
    cases j:j0l d
    ·rfl
    ·rw [cond_true,Bool.true_and]
     have g:(d.1==0)=true->((d.1==0)&&((d.2.1==0)&&sEq d.2.2 eS))=true:=λf=>by
      rcases jeW j with rfl | ⟨m,_,rfl⟩ | ⟨m,_,rfl⟩ | ⟨m,_,rfl⟩
      ·exact jnD
      ·cases f
      ·cases f
      ·cases f
     cases f:d.1==0
     ·rw [Bool.false_and,cond_false]
      cases d.1==ty<;>rfl
     ·have:=g f
      rw [f] at this
      rw [this,cond_true,cond_true]
      have l:(d.1==ty)=false:=by
       simp only [beq_iff_eq] at f
       rw [f];simp;omega
      rw [l,Bool.false_or,Bool.true_and]
  ·rw [decide_eq_false p]
   by_cases q:ty<1
   ·rw [decide_eq_true q];rfl
   ·rw [decide_eq_false q,cond_false,decide_eq_true (show ty>3 by omega)];rfl
theorem jik (c:C) (h:c.1.size<=LIM) (k:Bool->Res):j46 c k=k (j0R c):=by
 obtain ⟨n,ty,f,d,b⟩:=c
 unfold j46 j0R
 dsimp only at h ⊢
 rw [j4w n h,j4t,j7l]
 cases j0j n
 ·rfl
 ·cases decide (1<=ty/\ty<=3)
  ·rfl
  ·cases j0l b
   ·rfl
   ·cases d
    ·rfl
    ·cases b.1==ty
     ·cases b.1==0<;>rfl
     ·rfl
theorem j5G (t:T) (n:ByteArray) (h:t.2.1.length<=LIM) (k:Int->Res):j0B t n k=k (j02 t.2.1 n):=by
 unfold j0B jfw
 refine Z9S t.2.1 (λi=>i) (λc=>sEq c.1 n) (step:=j9z n t.2.1 (nI t.2.1.length)) _ k h (λi rec b=> ?_) (λrec=> ?_)
 ·show j4k n _ _ _ _ _ _=_
  unfold j4k
  unfold LIM at h
  rw [ZaQ b,cond_true,j00 b,cond_true,Zay _ _ _ b,j01 (n:=(i:Int)+1) (by omega)]
 ·show j4k n _ _ _ _ _ _=_
  unfold j4k
  rw [ZaP,cond_false]
theorem j6S (t:T) (n:ByteArray) (h:t.2.1.length<=LIM) (k:Int->Res):j0f t n k=k (j02 t.2.1 n):=by
 unfold j0f j5P j7D
 refine Z9S t.2.1 (λi=>i) (λc=>sEq c.1 n) (step:=j2U t.2.1 n (nI t.2.1.length)) _ k h (λi rec b=> ?_) (λrec=> ?_)
 ·show j0J _ n _ _ _ _ _=_
  unfold j0J jdw
  unfold LIM at h
  rw [ZaQ b,cond_true,j00 b,cond_true,Zay _ _ _ b,j01 (n:=(i:Int)+1) (by omega)]
 ·show j0J _ n _ _ _ _ _=_
  unfold j0J
  rw [ZaP,cond_false]
theorem j2g {t:T} (h:msr yT t<=1048576):t.1.size<=1048576/\t.2.1.length<=1048576/\t.2.2.length<=1048576/\(∀ c∈t.2.1,c.1.size<=1048576)/\∀ x∈t.2.2,x.size<=1048576:=by
 have i:msr yT t=t.1.size+(msr (.slice yC) t.2.1+msr (.slice .str) t.2.2):=rfl
 have b:msr (.slice yC) t.2.1<=1048576:=by omega
 have d:msr (.slice .str) t.2.2<=1048576:=by omega
 refine ⟨by omega,j0M b,j0M d,λc f=> ?_,λx g=>j1U d g⟩
 have:=j1U b f
 have j:msr yC c=c.1.size+msr (.pair (.int .i64) (.pair .bool (.pair .bool yV))) c.2:=rfl
 omega
noncomputable def tSm (t:T):Prop:=t.1.size<=1048576/\t.2.1.length<=1048576/\t.2.2.length<=1048576/\(∀ c∈t.2.1,c.1.size<=1048576)/\∀ x∈t.2.2,x.size<=1048576
theorem jlc (t:T) (h:tSm t) (a b:Unit->Res):j6K t.2.1 (nI t.2.1.length) t Z1c 0 a b=bif j43 t.2.1 then a () else b ():=by
 have f:=h
 obtain ⟨j,k,l,g,m⟩:=f
 unfold j6K
 have:=Z9P t.2.1 (λi=>i) (λi c=> !j0R c||(j02 t.2.1 c.1 != (i:Int))) (step:=j2J t.2.1 (nI t.2.1.length) t) (a,b) (a ()) (b ()) (by unfold LIM;omega) (λi rec d=>by
  show j1B _ _ t _ _ _ _=_
  unfold j1B
  rw [ZaQ d,cond_true,j00 d,cond_true,Zay _ _ _ d,jiX _ (by have:=g _ (List.getElem_mem d);unfold LIM;omega),j5G t _ (by unfold LIM;omega),j01 (n:=(i:Int)+1) (by omega)]
  cases j0R t.2.1[i]
  ·rfl
  ·cases j02 t.2.1 t.2.1[i].1 != (i:Int)<;>rfl) (λrec=>by
  show j1B _ _ t _ _ _ _=_
  unfold j1B
  rw [ZaP,cond_false])
 refine this.trans ?_
 unfold j43
 cases Z71 (λi c=> !j0R c||(j02 t.2.1 c.1 != (i:Int))) 0 t.2.1<;>rfl
theorem jkL (t:T) (h:tSm t) (a b:Unit->Res):j6x t.2.1 (nI t.2.1.length) t Z1c 0 a b=bif j43 t.2.1 then a () else b ():=by
 have f:=h
 obtain ⟨j,k,l,g,m⟩:=f
 unfold j6x
 have:=Z9P t.2.1 (λi=>i) (λi c=> !j0R c||(j02 t.2.1 c.1 != (i:Int))) (step:=j2z t.2.1 (nI t.2.1.length) t) (a,b) (a ()) (b ()) (by unfold LIM;omega) (λi rec d=>by
  show j1z _ _ t _ _ _ _=_
  unfold j1z
  rw [ZaQ d,cond_true,j00 d,cond_true,Zay _ _ _ d,jik _ (by have:=g _ (List.getElem_mem d);unfold LIM;omega),j6S t _ (by unfold LIM;omega),j01 (n:=(i:Int)+1) (by omega)]
  cases j0R t.2.1[i]
  ·rfl
  ·cases j02 t.2.1 t.2.1[i].1 != (i:Int)<;>rfl) (λrec=>by
  show j1z _ _ t _ _ _ _=_
  unfold j1z
  rw [ZaP,cond_false])
 refine this.trans ?_
 unfold j43
 cases Z71 (λi c=> !j0R c||(j02 t.2.1 c.1 != (i:Int))) 0 t.2.1<;>rfl
noncomputable def j7r (l:List C) (b:Int) (k:ByteArray):Except Unit Int:=bif decide (j02 l k<=b) then .error () else bif !(nth zC l (j02 l k)).2.2.1 then .error () else .ok (j02 l k)
theorem jg8 (l:List C):(ks:List ByteArray)->(i:Nat)->(b:Int)->(∃ z,Z1S (λ_ b k=>j7r l b k) i ks b= .ok z/\j12 l b ks=true)\/(Z1S (λ_ b k=>j7r l b k) i ks b= .error ()/\j12 l b ks=false)
 | [],_,b=> .inl ⟨b,rfl,rfl⟩
 | k::ks,i,b=>by
  have d:=jg8 l ks (i+1) (j02 l k)
  simp only [Z1S,j12,j7r] at d ⊢
  cases decide (j02 l k<=b)
  ·cases (nth zC l (j02 l k)).2.2.1
   ·exact .inr ⟨rfl,rfl⟩
   ·exact d
  ·exact .inr ⟨rfl,rfl⟩
theorem jld (t:T) (h:tSm t) (a b:Unit->Res):j6L t.2.2 (nI t.2.2.length) t Z1c (-1) 0 a b=bif j12 t.2.1 (-1) t.2.2 then a () else b ():=by
 have q:=h
 obtain ⟨w,y,A,B,C⟩:=q
 unfold j6L
 have:=Z3Z t.2.2 (λi d=>(d,i)) (λ_ d k=>j7r t.2.1 d k) (λ_ d=> -1<=d) (step:=j4I t.2.2 (nI t.2.2.length) t) (a,b) (λ_=>a ()) (λ_=>b ()) (-1) (by unfold LIM;omega) (by omega) (λi d m l p g=>by
  unfold j7r at g
  have:=(j7Z t.2.1 t.2.2[i]).1
  cases f:decide (j02 t.2.1 t.2.2[i]<=d)
  ·rw [f,cond_false] at g
   cases j:(nth zC t.2.1 (j02 t.2.1 t.2.2[i])).2.2.1
   ·rw [j] at g;cases g
   ·rw [j] at g
    cases g
    exact this
  ·rw [f] at g;cases g) (λi d rec l p=>by
  show j2K _ _ t _ _ _ _ _=_
  unfold j2K
  dsimp only
  rw [ZaQ l,cond_true,j00 l,cond_true,Zay _ _ _ l,j5G t _ (by unfold LIM;omega),j01 (n:=(i:Int)+1) (by omega)]
  unfold j7r
  by_cases f:j02 t.2.1 t.2.2[i]<=d
  ·rw [decide_eq_true f];rfl
  ·have r:=(j7Z t.2.1 t.2.2[i]).2
   rw [decide_eq_false f,cond_false,cond_false,ZaK (by omega) r,cond_true]
   cases (nth zC t.2.1 (j02 t.2.1 t.2.2[i])).2.2.1<;>rfl) (λd rec _=>by
  show j2K _ _ t _ _ _ _ _=_
  unfold j2K
  dsimp only
  rw [ZaP,cond_false])
 refine this.trans ?_
 rcases jg8 t.2.1 t.2.2 0 (-1) with ⟨z,f,j⟩ | ⟨f,j⟩<;>rw [f,j]<;>rfl
theorem jkM (t:T) (h:tSm t) (a b:Unit->Res):j6y t.2.2 (nI t.2.2.length) t Z1c (-1) 0 a b=bif j12 t.2.1 (-1) t.2.2 then a () else b ():=by
 have q:=h
 obtain ⟨w,y,A,B,C⟩:=q
 unfold j6y
 have:=Z3Z t.2.2 (λi d=>(d,i)) (λ_ d k=>j7r t.2.1 d k) (λ_ d=> -1<=d) (step:=j4D t.2.2 (nI t.2.2.length) t) (a,b) (λ_=>a ()) (λ_=>b ()) (-1) (by unfold LIM;omega) (by omega) (λi d m l p g=>by
  unfold j7r at g
  have:=(j7Z t.2.1 t.2.2[i]).1
  cases f:decide (j02 t.2.1 t.2.2[i]<=d)
  ·rw [f,cond_false] at g
   cases j:(nth zC t.2.1 (j02 t.2.1 t.2.2[i])).2.2.1
   ·rw [j] at g;cases g
   ·rw [j] at g
    cases g
    exact this
  ·rw [f] at g;cases g) (λi d rec l p=>by
  show j2A _ _ t _ _ _ _ _=_
  unfold j2A
  dsimp only
  rw [ZaQ l,cond_true,j00 l,cond_true,Zay _ _ _ l,j6S t _ (by unfold LIM;omega),j01 (n:=(i:Int)+1) (by omega)]
  unfold j7r
  by_cases f:j02 t.2.1 t.2.2[i]<=d
  ·rw [decide_eq_true f];rfl
  ·have r:=(j7Z t.2.1 t.2.2[i]).2
   rw [decide_eq_false f,cond_false,cond_false,ZaK (by omega) r,cond_true]
   cases (nth zC t.2.1 (j02 t.2.1 t.2.2[i])).2.2.1<;>rfl) (λd rec _=>by
  show j2A _ _ t _ _ _ _ _=_
  unfold j2A
  dsimp only
  rw [ZaP,cond_false])
 refine this.trans ?_
 rcases jg8 t.2.1 t.2.2 0 (-1) with ⟨z,f,j⟩ | ⟨f,j⟩<;>rw [f,j]<;>rfl
theorem jpx (t:T) (k:Bool->Res):j4r t k=j0y t.1 λw=>k (!(w&&(decide (1<=t.2.1.length)&&(decide (t.2.1.length<=8)&&decide (1<=t.2.2.length))))):=by
 unfold j4r
 congr 1
 funext w
 unfold nI
 cases w
 ·rfl
 ·rw [Bool.not_true,cond_false,Bool.true_and]
  by_cases b:1<=t.2.1.length
  ·rw [decide_eq_false (show ¬ (t.2.1.length:Int)<1 by omega),cond_false,decide_eq_true b,Bool.true_and]
   by_cases d:t.2.1.length<=8
   ·rw [decide_eq_false (show ¬ (t.2.1.length:Int)>8 by omega),cond_false,decide_eq_true d,Bool.true_and]
    congr 1
    by_cases f:1<=t.2.2.length
    ·rw [decide_eq_false (show ¬ (t.2.2.length:Int)<1 by omega),decide_eq_true f];rfl
    ·rw [decide_eq_true (show (t.2.2.length:Int)<1 by omega),decide_eq_false f];rfl
   ·rw [decide_eq_true (show (t.2.1.length:Int)>8 by omega),decide_eq_false d];rfl
  ·rw [decide_eq_true (show (t.2.1.length:Int)<1 by omega),decide_eq_false b];rfl
theorem jhc (t:T) (h:tSm t) (k:Bool->Res):j0o t k=k (j03 t):=by
 have b:=h
 obtain ⟨d,f,g,i,j⟩:=b
 unfold j0o j03
 rw [jpx,j4A _ (by unfold LIM;omega),jlc t h,jld t h]
 cases j0j t.1&&(decide (1<=t.2.1.length)&&(decide (t.2.1.length<=8)&&decide (1<=t.2.2.length)))
 ·rfl
 ·cases j43 t.2.1
  ·rfl
  ·cases j12 t.2.1 (-1) t.2.2<;>rfl
theorem jh3 (t:T) (h:tSm t) (k:Bool->Res):j0C t k=k (j03 t):=by
 have d:=h
 obtain ⟨g,i,j,l,m⟩:=d
 unfold j0C j03
 rw [j4w _ (by unfold LIM;omega),j4t,jkL t h,jkM t h]
 have b:decide (1<=nI t.2.1.length/\nI t.2.1.length<=8)=(decide (1<=t.2.1.length)&&decide (t.2.1.length<=8)):=by
  rw [<-Bool.decide_and]
  exact decide_eq_decide.2 (by unfold nI;omega)
 have f:decide (nI t.2.2.length>0)=decide (1<=t.2.2.length):=decide_eq_decide.2 (by unfold nI;omega)
 rw [b,f]
 cases j43 t.2.1
 ·rw [Bool.false_and,Bool.and_false];rfl
 ·cases j12 t.2.1 (-1) t.2.2
  ·rw [Bool.and_false,Bool.and_false];rfl
  ·cases j0j t.1
   ·rfl
   ·cases decide (1<=t.2.1.length)
    ·rfl
    ·cases decide (t.2.1.length<=8)
     ·rfl
     ·cases decide (1<=t.2.2.length)<;>rfl
theorem jbI (t:T) (h:msr yT t<=1048576) (k:Bool->Res):j0o t k=k (j03 t):=jhc t (j2g h) k
theorem jeH (t:T) (h:msr yT t<=1048576) (k:Bool->Res):j0C t k=k (j03 t):=jh3 t (j2g h) k
theorem jlA (c:List T) (i:Nat) (d:i<c.length) (b:c.length<=LIM) (x:Res) (y:Res):(bif decide ((i:Int)>0) then (bif inb (Z9K ((i:Int)-1)) c.length then (bif sGe (nth zT c (Z9K ((i:Int)-1))).1 c[i].1 then x else y) else none) else y) =
  bif (decide (0<i)&&sGe (nth zT c ((i:Int)-1)).1 c[i].1) then x else y:=by
 by_cases h:0<i
 ·unfold LIM at b
  rw [decide_eq_true (show (i:Int)>0 by omega),decide_eq_true h,cond_true,j01 (by omega),ZaK (by omega) (by omega),cond_true,Bool.true_and]
 ·rw [decide_eq_false (show ¬ (i:Int)>0 by omega),decide_eq_false h];rfl
end Go.PI.G
namespace Go.PI.G
open Go Go.PI
def free (b:Int) (s:ByteArray):Prop:=b ∉ Z1n s
theorem jeX {s:ByteArray} (h:j0j s=true):1<=s.size/\s.size<=8:=by
 unfold j0j at h
 simp only [Bool.and_eq_true,decide_eq_true_eq] at h
 exact h.2
end Go.PI.G
