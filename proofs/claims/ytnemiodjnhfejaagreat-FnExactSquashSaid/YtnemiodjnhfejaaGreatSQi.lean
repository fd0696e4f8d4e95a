/-
  Program's code interpreted over typed values; printed texts; plain laws. No conditions.
-/
import Derived.Test.YtnemiodjnhfejaaGreatPc
import Derived.Test.YtnemiodjnhfejaaGreatSQc
import Derived.Test.YtnemiodjnhfejaaGreatSQh
import Derived.Test.YtnemiodjnhfejaaGreatSQg
import Derived.Test.YtnemiodjnhfejaaGreatSQd
import Derived.Test.YtnemiodjnhfejaaGreatSQe
set_option linter.unusedVariables false
set_option maxRecDepth 100000
namespace Go.PI.G
noncomputable section
open Go Go.PI Go.Proofs
open Go.Code (pl pr)
def j3O (a:List qS) (left:Int) (i:Int) (rec:Int->Int->Res) (b:Int->Res) (d:Unit->Res):Res:=bif decide (i<(nI (List.length a))) then bif inb i (List.length a) then j9W (nth (0,eS,[],[],0,eS,[],[],eS,eS) a i) left λr=>bif decide (r<0) then d () else rec r (Z9K (i+1)) else none else b left
def jdI (a:List qS):(Int×Int)->(Int×Int->Res)->((Int->Res)×(Unit->Res))->Res:=λv rec q=>j3O a v.1 v.2 (λleft i=>rec (left,i)) q.1 q.2
def jbd (a:List qS) (n:Nat) (left:Int) (i:Int) (b:Int->Res) (d:Unit->Res):Res:=Z1f (jdI a) n (left,i) (b,d)
def jf1:Z1d Unit:=NdL 27 27 [.R 0 y24 .S,.I 1,.I 5] [] (λd f=>(d.2.1,d.2.2.1)) (λd v=>(d.1,v.1,v.2,())) (λf v=>()) (λd f=>jdI d.1) λd f g=>((λb=>g (.exit 0) [(1,vI b)] []),(λ_=>g .ret [(4,vI (-1))] []))
theorem jkK:CN 0 122 Tryz.f65 jf1:=lK (Za6 jhI Zas) [] oN ([],[]) [(0,[1],[])] ([4],[]) λ_ _ _ _ _=>by kernel_rfl
def j8H (a:List qS) (left:Int) (d:Int->Res):Res:=bif decide ((Z9K (left-(nI (List.length a))))<0) then d (-1) else jbd a Z1c (Z9K (left-(nI (List.length a)))) 0 (λb=>d b) (λ_=>d (-1))
def jcj:Sig Unit:=sg [.look y24 false,.look tI false] [false] [(y24,none),(tI,none)] [] λb f k=>j8H b.1 b.2.1 (λd=>k [wI d] [] [])
theorem jme:SO 65 jcj:=fK (np:=0) (Za6 jhI Zas) [jf1] (oI 122 0 @jkK oN) false Tryz.func65 λ_ _ _ _=>by kernel_rfl
def j3Q (a:List qS) (b:List qS) (i:Int) (rec:qU->Int->Res) (d:qU->Res):Res:=bif decide (i<(nI (List.length a))) then bif inb i (List.length a) then j9X (nth (0,eS,[],[],0,eS,[],[],eS,eS) a i) λr=>bif inb i (List.length b) then rec (upd b i r) (Z9K (i+1)) else none else none else d b
def j9D (a:List qS):(qU×Int)->(qU×Int->Res)->((qU->Res))->Res:=λv rec q=>j3Q a v.1 v.2 (λb i=>rec (b,i)) q
def jls (a:List qS) (n:Nat) (b:List qS) (i:Int) (d:qU->Res):Res:=Z1f (j9D a) n (b,i) (d)
def jf3:Z1d Unit:=NdL 23 23 [.R 0 y24 .S,.R 3 y24 .O,.I 4] [] (λb f=>(b.2.1,b.2.2.1)) (λb v=>(b.1,v.1,v.2,())) (λf v=>()) (λb f=>j9D b.1) λb f g=>((λd=>g (.exit 0) [(3,v1 y24 d .O)] []))
theorem jkM:CN 0 58 Tryz.f68 jf3:=lK (Za6 jhM Zas) [] oN ([],[]) [(0,[3],[])] ([],[]) λ_ _ _ _ _=>by kernel_rfl
def j1y (a:List qS) (d:qU->Res):Res:=bif Z9I (nI (List.length a)) (nI (List.length a)) then jls a Z1c (Z9h (nI (List.length a)) (0,eS,[],[],0,eS,[],[],eS,eS)) 0 λb=>d b else none
def j6Q:Sig Unit:=sg [.borrow y24 false] [false] [(y24,none)] [] λd f k=>j1y d.1 (λb=>k [w1 y24 b .O] [] [])
theorem jmg:SO 68 j6Q:=fK (np:=0) (Za6 jhM Zas) [jf3] (oI 58 0 @jkM oN) false Tryz.func68 λ_ _ _ _=>by kernel_rfl
def j3I (a:List qS) (b:List qS) (i:Int) (rec:Int->Res) (d:Unit->Res) (f:Unit->Res):Res:=bif decide (i<(nI (List.length a))) then bif inb i (List.length a) then bif inb i (List.length b) then j9V (nth (0,eS,[],[],0,eS,[],[],eS,eS) a i) (nth (0,eS,[],[],0,eS,[],[],eS,eS) b i) λr=>bif !r then f () else rec (Z9K (i+1)) else none else none else d ()
def jdC (a:List qS) (b:List qS):Int->(Int->Res)->((Unit->Res)×(Unit->Res))->Res:=λv rec q=>j3I a b v (λi=>rec (i)) q.1 q.2
def jfr (a:List qS) (b:List qS) (n:Nat) (i:Int) (d:Unit->Res) (f:Unit->Res):Res:=Z1f (jdC a b) n (i) (d,f)
def jeZ:Z1d Unit:=NdL 27 27 [.R 0 y24 .S,.R 1 y24 .S,.I 5] [] (λb d=>(b.2.2.1)) (λb v=>(b.1,b.2.1,v,())) (λd v=>()) (λb d=>jdC b.1 b.2.1) λb d f=>((λ_=>f (.exit 0) [] []),(λ_=>f .ret [(4,vB false)] []))
theorem jkI:CN 0 58 Tryz.f70 jeZ:=lK (Za6 jhE Zas) [] oN ([],[]) [(0,[],[])] ([4],[]) λ_ _ _ _ _=>by kernel_rfl
def j1x (a:List qS) (b:List qS) (d:Bool->Res):Res:=bif ((nI (List.length a)) != (nI (List.length b))) then d false else jfr a b Z1c 0 (λ_=>d true) (λ_=>d false)
def j6P:Sig Unit:=sg [.look y24 false,.look y24 false] [false] [(y24,none),(y24,none)] [] λb f k=>j1x b.1 b.2.1 (λd=>k [wB d] [] [])
theorem jmb:SO 70 j6P:=fK (np:=0) (Za6 jhE Zas) [jeZ] (oI 58 0 @jkI oN) false Tryz.func70 λ_ _ _ _=>by kernel_rfl
theorem j2A:FS [(51,jbo),(98,j36),(110,j14),(111,j8c)]:=(Za6 jaX (Za6 jcL (Za6 j0b (Za6 jfe Zas))))
def j3J (a:List qS) (f:Int) (i:Int) (d:qU->Int->Res):Res:=bif inb i (List.length a) then j3v (nth (0,eS,[],[],0,eS,[],[],eS,eS) a i).2.2.1 f λr b=>d (upd a i ((nth (0,eS,[],[],0,eS,[],[],eS,eS) a i).1,(nth (0,eS,[],[],0,eS,[],[],eS,eS) a i).2.1,b,(nth (0,eS,[],[],0,eS,[],[],eS,eS) a i).2.2.2)) r else none
def j1b:Z1d Unit:=Nd 94 94 [.R 0 y24 .O,.I 1,.I 5] [] λb h g=>j3J b.1 b.2.1 b.2.2.1 (λf d=>g .normal [(0,v1 y24 f .O),(1,vI d),(5,vI b.2.2.1)] [])
theorem jiB:CN 1 13470 Tryz.f73 j1b:=nK j2A [] oN ([0,1,5],[]) [] ([],[]) λ_ _ _=>by kernel_rfl
def j3K (a:List qS) (d:Int) (i:Int) (b:qU->Res):Res:=bif inb i (List.length a) then b (upd a i ((nth (0,eS,[],[],0,eS,[],[],eS,eS) a i).1,(nth (0,eS,[],[],0,eS,[],[],eS,eS) a i).2.1,(nth (0,eS,[],[],0,eS,[],[],eS,eS) a i).2.2.1,(nth (0,eS,[],[],0,eS,[],[],eS,eS) a i).2.2.2.1,d,(nth (0,eS,[],[],0,eS,[],[],eS,eS) a i).2.2.2.2.2)) else none
def j22:Z1d Unit:=Nd 94 94 [.R 0 y24 .O,.I 1,.I 5] [] λb g f=>j3K b.1 b.2.1 b.2.2.1 (λd=>f .normal [(0,v1 y24 d .O),(1,vI b.2.1),(5,vI b.2.2.1)] [])
theorem jiC:CN 1 53886 Tryz.f73 j22:=nK j2A [j1b] oN ([0,1,5],[]) [] ([],[]) λ_ _ _=>by kernel_rfl
def j3L (a:List qS) (f:Int) (i:Int) (d:qU->Int->Res):Res:=bif inb i (List.length a) then j5n (nth (0,eS,[],[],0,eS,[],[],eS,eS) a i).2.2.2.2.2.2.1 f λr b=>d (upd a i ((nth (0,eS,[],[],0,eS,[],[],eS,eS) a i).1,(nth (0,eS,[],[],0,eS,[],[],eS,eS) a i).2.1,(nth (0,eS,[],[],0,eS,[],[],eS,eS) a i).2.2.1,(nth (0,eS,[],[],0,eS,[],[],eS,eS) a i).2.2.2.1,(nth (0,eS,[],[],0,eS,[],[],eS,eS) a i).2.2.2.2.1,(nth (0,eS,[],[],0,eS,[],[],eS,eS) a i).2.2.2.2.2.1,b,(nth (0,eS,[],[],0,eS,[],[],eS,eS) a i).2.2.2.2.2.2.2)) r else none
def j3h:Z1d Unit:=Nd 94 94 [.R 0 y24 .O,.I 1,.I 5] [] λb h g=>j3L b.1 b.2.1 b.2.2.1 (λf d=>g .normal [(0,v1 y24 f .O),(1,vI d),(5,vI b.2.2.1)] [])
theorem jiD:CN 1 862206 Tryz.f73 j3h:=nK j2A [j1b,j22] oN ([0,1,5],[]) [] ([],[]) λ_ _ _=>by kernel_rfl
def j3M (a:List qS) (d:Int) (i:Int) (b:qU->Res):Res:=j09 d λr=>bif inb i (List.length a) then b (upd a i ((nth (0,eS,[],[],0,eS,[],[],eS,eS) a i).1,(nth (0,eS,[],[],0,eS,[],[],eS,eS) a i).2.1,(nth (0,eS,[],[],0,eS,[],[],eS,eS) a i).2.2.1,(nth (0,eS,[],[],0,eS,[],[],eS,eS) a i).2.2.2.1,(nth (0,eS,[],[],0,eS,[],[],eS,eS) a i).2.2.2.2.1,(nth (0,eS,[],[],0,eS,[],[],eS,eS) a i).2.2.2.2.2.1,(nth (0,eS,[],[],0,eS,[],[],eS,eS) a i).2.2.2.2.2.2.1,(nth (0,eS,[],[],0,eS,[],[],eS,eS) a i).2.2.2.2.2.2.2.1,r,(nth (0,eS,[],[],0,eS,[],[],eS,eS) a i).2.2.2.2.2.2.2.2.2)) else none
def j5V:Z1d Unit:=Nd 94 94 [.R 0 y24 .O,.I 1,.I 5] [] λb g f=>j3M b.1 b.2.1 b.2.2.1 (λd=>f .normal [(0,v1 y24 d .O),(1,vI b.2.1),(5,vI b.2.2.1)] [])
theorem jiE:CN 1 3448830 Tryz.f73 j5V:=nK j2A [j1b,j22,j3h] oN ([0,1,5],[]) [] ([],[]) λ_ _ _=>by kernel_rfl
def j1n (a:List qS) (h:Int) (i:Int) (rec:qU->Int->Int->Res) (q:qU->Int->Res):Res:=bif decide (i<(nI (List.length a))) then bif inb i (List.length a) then j09 (Z9K (h+1)) λr=>bif inb i (List.length (upd a i (h,(nth (0,eS,[],[],0,eS,[],[],eS,eS) a i).2))) then j3J (upd (upd a i (h,(nth (0,eS,[],[],0,eS,[],[],eS,eS) a i).2)) i ((nth (0,eS,[],[],0,eS,[],[],eS,eS) (upd a i (h,(nth (0,eS,[],[],0,eS,[],[],eS,eS) a i).2)) i).1,r,(nth (0,eS,[],[],0,eS,[],[],eS,eS) (upd a i (h,(nth (0,eS,[],[],0,eS,[],[],eS,eS) a i).2)) i).2.2)) (Z9K ((Z9K (h+1))+1)) i λg j=>bif inb i (List.length g) then j3v (nth (0,eS,[],[],0,eS,[],[],eS,eS) g i).2.2.2.1 j λl n=>j3K (upd g i ((nth (0,eS,[],[],0,eS,[],[],eS,eS) g i).1,(nth (0,eS,[],[],0,eS,[],[],eS,eS) g i).2.1,(nth (0,eS,[],[],0,eS,[],[],eS,eS) g i).2.2.1,n,(nth (0,eS,[],[],0,eS,[],[],eS,eS) g i).2.2.2.2)) l i λf=>j09 (Z9K (l+1)) λw=>bif inb i (List.length f) then j3L (upd f i ((nth (0,eS,[],[],0,eS,[],[],eS,eS) f i).1,(nth (0,eS,[],[],0,eS,[],[],eS,eS) f i).2.1,(nth (0,eS,[],[],0,eS,[],[],eS,eS) f i).2.2.1,(nth (0,eS,[],[],0,eS,[],[],eS,eS) f i).2.2.2.1,(nth (0,eS,[],[],0,eS,[],[],eS,eS) f i).2.2.2.2.1,w,(nth (0,eS,[],[],0,eS,[],[],eS,eS) f i).2.2.2.2.2.2)) (Z9K ((Z9K (l+1))+1)) i λb k=>bif inb i (List.length b) then j1J (nth (0,eS,[],[],0,eS,[],[],eS,eS) b i).2.2.2.2.2.2.2.1 k λm p=>j3M (upd b i ((nth (0,eS,[],[],0,eS,[],[],eS,eS) b i).1,(nth (0,eS,[],[],0,eS,[],[],eS,eS) b i).2.1,(nth (0,eS,[],[],0,eS,[],[],eS,eS) b i).2.2.1,(nth (0,eS,[],[],0,eS,[],[],eS,eS) b i).2.2.2.1,(nth (0,eS,[],[],0,eS,[],[],eS,eS) b i).2.2.2.2.1,(nth (0,eS,[],[],0,eS,[],[],eS,eS) b i).2.2.2.2.2.1,(nth (0,eS,[],[],0,eS,[],[],eS,eS) b i).2.2.2.2.2.2.1,p,(nth (0,eS,[],[],0,eS,[],[],eS,eS) b i).2.2.2.2.2.2.2.2)) m i λd=>j09 (Z9K (m+1)) λy=>bif inb i (List.length d) then rec (upd d i ((nth (0,eS,[],[],0,eS,[],[],eS,eS) d i).1,(nth (0,eS,[],[],0,eS,[],[],eS,eS) d i).2.1,(nth (0,eS,[],[],0,eS,[],[],eS,eS) d i).2.2.1,(nth (0,eS,[],[],0,eS,[],[],eS,eS) d i).2.2.2.1,(nth (0,eS,[],[],0,eS,[],[],eS,eS) d i).2.2.2.2.1,(nth (0,eS,[],[],0,eS,[],[],eS,eS) d i).2.2.2.2.2.1,(nth (0,eS,[],[],0,eS,[],[],eS,eS) d i).2.2.2.2.2.2.1,(nth (0,eS,[],[],0,eS,[],[],eS,eS) d i).2.2.2.2.2.2.2.1,(nth (0,eS,[],[],0,eS,[],[],eS,eS) d i).2.2.2.2.2.2.2.2.1,y)) (Z9K ((Z9K (m+1))+1)) (Z9K (i+1)) else none else none else none else none else none else none else q a h
def j56:(qU×Int×Int)->(qU×Int×Int->Res)->((qU->Int->Res))->Res:=λv rec q=>j1n v.1 v.2.1 v.2.2 (λa b i=>rec (a,b,i)) q
def jdG (n:Nat) (a:List qS) (d:Int) (i:Int) (b:qU->Int->Res):Res:=Z1f (j56) n (a,d,i) (b)
def jd1:Z1d Unit:=NdL 94 94 [.R 0 y24 .O,.I 1,.I 5] [] (λb f=>(b.1,b.2.1,b.2.2.1)) (λb v=>(v.1,v.2.1,v.2.2,())) (λf v=>()) (λb f=>j56) λb f h=>((λg d=>h (.exit 0) [(0,v1 y24 g .O),(1,vI d)] []))
theorem jiA:CN 1 26 Tryz.f73 jd1:=lK j2A [j1b,j22,j3h,j5V] (oI 414 0 @jiB (oI 1662 1 @jiC (oI 26622 2 @jiD (oI 106494 3 @jiE oN)))) ([],[]) [(0,[0,1],[])] ([],[]) λ_ _ _ _ _=>by delta j56 j1n j14 j1b jbo j22 j3h j36 j5V;refine gz j09 λ_ b=>gz j3J λ_ d=>gz j3v λ_ f=>gz j3K λ_ g=>gz j3L λ_ h=>gz j1J λ_ i=>gz j3M λ_ j=> ?_;rewrite [<-b,<-d,<-f,<-g,<-h,<-i,<-j];kernel_rfl
def j4j (a:List qS) (g:Int) (f:Int->qU->Res):Res:=jdG Z1c a g 0 λd b=>f b d
def jaq:Sig Unit:=sg [.inout y24 false,.borrow tI false] [false] [(y24,some [.O]),(tI,none)] [] λb g k=>j4j b.1 b.2.1 (λf d=>k [wI f] [w1 y24 d .O] [])
theorem jki:SO 73 jaq:=fK (np:=1) j2A [j1b,j22,j3h,j5V,jd1] (oI 26 4 @jiA oN) false Tryz.func73 λ_ _ _ _=>by kernel_rfl
theorem je7:FS [(110,j14),(118,jbn),(145,jbm),(146,j8O)]:=(Za6 j0b (Za6 jlb (Za6 jla (Za6 jih Zas))))
def j1m (a:List qS) (d:Int) (i:Int) (rec:Int->Int->Res) (k:Int->Res) (b:Unit->Res):Res:=bif decide (i<(nI (List.length a))) then bif inb i (List.length a) then bif ((nth (0,eS,[],[],0,eS,[],[],eS,eS) a i).1 != d) then b () else bif inb i (List.length a) then j09 (Z9K (d+1)) λr=>bif sNe (nth (0,eS,[],[],0,eS,[],[],eS,eS) a i).2.1 r then b () else bif inb i (List.length a) then j5m (nth (0,eS,[],[],0,eS,[],[],eS,eS) a i).2.2.1 (Z9K ((Z9K (d+1))+1)) λh=>bif decide (h<0) then b () else bif inb i (List.length a) then j5m (nth (0,eS,[],[],0,eS,[],[],eS,eS) a i).2.2.2.1 h λf=>bif decide (f<0) then b () else bif inb i (List.length a) then bif ((nth (0,eS,[],[],0,eS,[],[],eS,eS) a i).2.2.2.2.1 != f) then b () else bif inb i (List.length a) then j09 (Z9K (f+1)) λl=>bif sNe (nth (0,eS,[],[],0,eS,[],[],eS,eS) a i).2.2.2.2.2.1 l then b () else bif inb i (List.length a) then j7F (nth (0,eS,[],[],0,eS,[],[],eS,eS) a i).2.2.2.2.2.2.1 (Z9K ((Z9K (f+1))+1)) λj=>bif decide (j<0) then b () else bif inb i (List.length a) then j4A (nth (0,eS,[],[],0,eS,[],[],eS,eS) a i).2.2.2.2.2.2.2.1 j λg=>bif decide (g<0) then b () else bif inb i (List.length a) then j09 g λm=>bif sNe (nth (0,eS,[],[],0,eS,[],[],eS,eS) a i).2.2.2.2.2.2.2.2.1 m then b () else bif inb i (List.length a) then j09 (Z9K (g+1)) λn=>bif sNe (nth (0,eS,[],[],0,eS,[],[],eS,eS) a i).2.2.2.2.2.2.2.2.2 n then b () else rec (Z9K ((Z9K (g+1))+1)) (Z9K (i+1)) else none else none else none else none else none else none else none else none else none else none else k d
def j55 (a:List qS):(Int×Int)->(Int×Int->Res)->((Int->Res)×(Unit->Res))->Res:=λv rec q=>j1m a v.1 v.2 (λb i=>rec (b,i)) q.1 q.2
def jdE (a:List qS) (n:Nat) (f:Int) (i:Int) (b:Int->Res) (d:Unit->Res):Res:=Z1f (j55 a) n (f,i) (b,d)
def jcZ:Z1d Unit:=NdL 114 114 [.R 0 y24 .S,.I 1,.I 5] [] (λb f=>(b.2.1,b.2.2.1)) (λb v=>(b.1,v.1,v.2,())) (λf v=>()) (λb f=>j55 b.1) λb f g=>((λd=>g (.exit 0) [(1,vI d)] []),(λ_=>g .ret [(4,vI (-1))] []))
theorem jiy:CN 0 26 Tryz.f74 jcZ:=lK je7 [] oN ([],[]) [(0,[1],[])] ([4],[]) λ_ _ _ _ _=>by delta j55 j1m j14 jbn jbm j8O;refine gz j09 λ_ b=>gz j5m λ_ d=>gz j7F λ_ f=>gz j4A λ_ g=> ?_;rewrite [<-b,<-d,<-f,<-g];kernel_rfl
def j2E (a:List qS) (f:Int) (d:Int->Res):Res:=jdE a Z1c f 0 (λb=>d b) (λ_=>d (-1))
def j7l:Sig Unit:=sg [.look y24 false,.look tI false] [false] [(y24,none),(tI,none)] [] λb f k=>j2E b.1 b.2.1 (λd=>k [wI d] [] [])
theorem jkg:SO 74 j7l:=fK (np:=0) je7 [jcZ] (oI 26 0 @jiy oN) false Tryz.func74 λ_ _ _ _=>by kernel_rfl
end
end Go.PI.G
namespace Go.PI.G
noncomputable section
open Go Go.PI Go.Proofs
open Go.Code (pl pr)
theorem j47:Fns Tryz.prog [(64,jg7),(65,jcj),(66,jdj),(67,ja1),(68,j6Q),(69,jac),(70,j6P),(71,jg6),(72,jdg),(73,jaq),(74,j7l)]:=(Za6 jps (Za6 jme (Za6 jnF (Za6 jpt (Za6 jmg (Za6 jnw (Za6 jmb (Za6 jpr (Za6 jnz (Za6 jki (Za6 jkg Zas)))))))))))
def j1O (g:List qS) (p:List qS) (w1:Bool) (h:List qS) (m:Int) (i:Int) (f:qF×List qR) (b:Bool->Res):Res:=bif (i != m) then b false else j33 f λr=>j1y g λj=>j4f r j λk l=>j1x k p λn=>bif !n then b false else bif !(l==w1) then b false else j2E h 1 λd=>bif decide (d<0) then b false else bif (d != m) then b false else b true
def j1E:Z1d Unit:=λσ k=>rdN σ 119<|rd1 σ 1 y24 .S λd=>rdT σ 2 (pB 2)<|rd1 σ 6 y24 .O λi=>rdO σ 7 λw1=>rd1 σ 10 y24 .O λf=>rdI σ 13 λm=>rdI σ 14 λg=>rdB σ 2 y14 [.S,.S] λa b=>j1O d i w1 f m g b (λh=>k .ret (mkS 119 119 [(4,vB h)] []))
theorem jg2:CN 0 8388607 Tryz.f13 j1E:=λi=>jjh follows j4e j47 i [] oN ([],[]) [] ([4],[]) λσ k _ h=>rN h λA h=>rV h λC r h=>rT h λw h=>rV h λF y h=>rV h λw1 z h=>rV h λD b h=>rV h λm d h=>rV h λE f h=>rB h λa B g h=>⟨_,ZaM (m:=119) A (sC r (sC w (sC y (sC z (sC b (sC d (sC f sN))))))) (bC g bN),.trans (by delta j1O ja1 j6Q jac j6P j7l;refine gz j33 λ_ j=>gz j1y λ_ l=>gz j4f λ_ n=>gz j1x λ_ p=>gz j2E λ_ q=> ?_;rewrite [<-j,<-l,<-n,<-p,<-q];kernel_rfl) h⟩
def j1P (j:List qS) (h:List qS) (w1:Bool) (q:List qS) (f:List qS) (k:Bool) (i:qF×List qR) (p:qF×List qR) (b:Bool->Res):Res:=j7Q p 1 λr w=>j4j q r λl y=>bif decide (l<0) then b false else j1x f h λm=>bif !m then b false else bif !(k==w1) then b false else j4j f 1 λn d=>j2E d 1 λg=>bif decide (g<0) then b false else j1O j h w1 d n g i λt=>b t
def j2P:Z1d Unit:=λσ k=>rdN σ 119<|rd1 σ 1 y24 .S λd=>rdT σ 2 (pB 2)<|rd1 σ 6 y24 .O λi=>rdO σ 7 λw1=>rdT σ 8 (pB 8)<|rd1 σ 9 y24 .O λl=>rd1 σ 10 y24 .O λf=>rdO σ 11 λg=>rdB σ 2 y14 [.S,.S] λa b=>rdB σ 8 y14 [.O,.O] λm j=>j1P d i w1 l f g b j (λh=>k .ret (mkS 119 119 [(4,vB h)] []))
theorem jg3:CN 0 16383 Tryz.f13 j2P:=λi=>jjh follows j4e j47 i [j1E] (oI 1023 0 @jg2 oN) ([],[]) [] ([4],[]) λσ k _ h=>rN h λC h=>rV h λF r h=>rT h λw h=>rV h λI y h=>rV h λw1 z h=>rT h λA h=>rV h λK B h=>rV h λG b h=>rV h λH d h=>rB h λa E f h=>rB h λD J g h=>⟨_,ZaM (m:=119) C (sC r (sC w (sC y (sC z (sC A (sC B (sC b (sC d sN)))))))) (bC f (bC g bN)),.trans (by delta j1P jdg jaq j6P j7l j1E;refine gz j7Q λ_ j=>gz j4j λ_ l=>gz j1x λ_ n=>gz j2E λ_ p=>gz j1O λ_ q=> ?_;rewrite [<-j,<-l,<-n,<-p,<-q];kernel_rfl) h⟩
def j1Q (h:List qS) (j:List qS) (w1:Bool) (f:List qS) (g:qF×List qR) (d:qF×List qR) (b:Bool->Res):Res:=j4f d f λr i=>j1x r j λk=>bif !k then b false else bif !(i==w1) then b false else j33 g λl=>jaP d l λm=>bif !m then b false else j1y h λn=>j1x f n λp=>bif !p then b false else j1P h j w1 f r i g d λt=>b t
def j6a:Z1d Unit:=λσ k=>rdN σ 119<|rd1 σ 1 y24 .S λd=>rdT σ 2 (pB 2)<|rd1 σ 6 y24 .O λg=>rdO σ 7 λw1=>rdT σ 8 (pB 8)<|rd1 σ 9 y24 .O λi=>rdB σ 2 y14 [.S,.S] λa b=>rdB σ 8 y14 [.O,.O] λj h=>j1Q d g w1 i b h (λf=>k .ret (mkS 119 119 [(4,vB f)] []))
theorem jg4:CN 0 1023 Tryz.f13 j6a:=λf=>jjh follows j4e j47 f [j1E,j2P] (oI 31 1 @jg3 oN) ([],[]) [] ([4],[]) λσ k _ h=>rN h λB h=>rV h λE q h=>rT h λr h=>rV h λF w h=>rV h λw1 y h=>rT h λz h=>rV h λH A h=>rB h λa D b h=>rB h λC G d h=>⟨_,ZaM (m:=119) B (sC q (sC r (sC w (sC y (sC z (sC A sN)))))) (bC b (bC d bN)),.trans (by delta j1Q jac j6P ja1 jg6 j6Q j2P;refine gz j4f λ_ g=>gz j1x λ_ i=>gz j33 λ_ j=>gz jaP λ_ l=>gz j1y λ_ n=>gz j1P λ_ p=> ?_;rewrite [<-g,<-i,<-j,<-l,<-n,<-p];kernel_rfl) h⟩
def j2W (b:qF×List qR) (d:List qS) (f:Bool->Res):Res:=jaQ b 1048576 λr=>bif decide (r<0) then f true else j8H d r λg=>bif decide (g<0) then f true else j33 b λh=>j1y d λi=>j7W h i λj k=>j33 b λl=>j1y d λm=>j1Q d j k m b l λt=>f t
def j27:Sig Unit:=⟨[.borrow y14 true,.borrow y24 false],[false],λvals ext k=>av vals y14 λb vals=>av vals y24 λd vals=>nl vals<|nl ext<|j2W b d (λf=>k [wB f] [] [])⟩
theorem jh0:Z17 Tryz.prog 13 j27:=jsj (np:=0) follows j4e j47 [j1E,j2P,j6a] (oI 1023 2 @jg4 oN) false Tryz.func13 λ_ _ k _ h=>aV h λ_ _ _ _ _ h=>aV h λ_ _ _ _ _ h=>nL h λ_ h=>nL h λ_ h=>by subst_vars;exact .trans (by delta j2W jg7 jcj ja1 j6Q jdj j6a;refine gz jaQ λ_ b=>gz j8H λ_ d=>gz j33 λ_ f=>gz j1y λ_ g=>gz j7W λ_ i=>gz j1Q λ_ j=> ?_;rewrite [<-b,<-d,<-f,<-g,<-i,<-j];kernel_rfl) h
end
end Go.PI.G
namespace Go.PI.G
open Go Go.PI
abbrev V:=Int×Int×ByteArray
theorem jcJ (s:ByteArray):(Z1n s).length=s.size:=by unfold Z1n;simp
theorem j0d (a b:ByteArray):sEq a b=true↔a=b:=by
 unfold sEq
 rw [beq_iff_eq]
 constructor
 ·intro h
  rw [ByteArray.ext_iff]
  have d:a.toList=a.data.toList:=by rw [ByteArray.toList_eq]
  have f:b.toList=b.data.toList:=by rw [ByteArray.toList_eq]
  rw [d,f] at h
  exact Array.toList_inj.1 h
 ·rintro rfl;rfl
def joX (n:Int):Bool:=decide (-1099511627775<=n/\n<=1099511627775)
def j0w (v:V):Bool:=
 bif v.1==0 then (v.2.1==0)&&sEq v.2.2 eS
 else bif v.1==1 then ((v.2.1==0)||(v.2.1==1))&&sEq v.2.2 eS
 else bif v.1==2 then joX v.2.1&&sEq v.2.2 eS
 else bif v.1==3 then (v.2.1==0)&&decide (nI v.2.2.size<=30)
 else false
theorem jrd (x:Int):decide (0<=x/\x<=1)=((x==0)||(x==1)):=by
 by_cases h:0<=x/\x<=1
 ·rw [decide_eq_true h]
  have:x=0\/x=1:=by omega
  rcases this with rfl | rfl<;>rfl
 ·rw [decide_eq_false h]
  have b:(x==0)=false:=by simp;omega
  have d:(x==1)=false:=by simp;omega
  rw [b,d];rfl
theorem jho {v:V} (h:j0w v=true):v=(0,0,eS)\/(∃ n,(n=0\/n=1)/\v=(1,n,eS))\/(∃ n,(-1099511627775<=n/\n<=1099511627775)/\v=(2,n,eS))\/∃ s:ByteArray,s.size<=30/\v=(3,0,s):=by
 obtain ⟨t,n,s⟩:=v
 unfold j0w at h
 simp only at h
 cases d:t==0
 ·cases f:t==1
  ·cases g:t==2
   ·cases i:t==3
    ·rw [d,f,g,i] at h;cases h
    ·rw [d,f,g,i] at h
     simp only [cond_false,cond_true,Bool.and_eq_true,beq_iff_eq,decide_eq_true_eq] at h i
     obtain ⟨rfl,h⟩:=h
     subst i
     exact .inr (.inr (.inr ⟨s,by unfold nI at h;omega,rfl⟩))
   ·rw [d,f,g] at h
    simp only [cond_false,cond_true,Bool.and_eq_true,beq_iff_eq] at h g
    obtain ⟨h,b⟩:=h
    rw [j0d] at b
    subst b;subst g
    exact .inr (.inr (.inl ⟨n,of_decide_eq_true h,rfl⟩))
  ·rw [d,f] at h
   simp only [cond_false,cond_true,Bool.and_eq_true,Bool.or_eq_true,beq_iff_eq] at h f
   obtain ⟨h,b⟩:=h
   rw [j0d] at b
   subst b;subst f
   exact .inr (.inl ⟨n,h,rfl⟩)
 ·rw [d] at h
  simp only [cond_true,Bool.and_eq_true,beq_iff_eq] at h d
  obtain ⟨h,b⟩:=h
  rw [j0d] at b
  subst b;subst d;subst h
  exact .inl rfl
theorem jnr {v:V} (h:j0w v=true):v.2.2.size<=30:=by
 rcases jho h with rfl | ⟨n,_,rfl⟩ | ⟨n,_,rfl⟩ | ⟨s,b,rfl⟩
 ·show (0:Nat)<=30;omega
 ·show (0:Nat)<=30;omega
 ·show (0:Nat)<=30;omega
 ·exact b
def be (n:Nat):Nat->List Int
 | 0=>[]
 | s+1=>((n / 256 ^ s % 256:Nat):Int)::be n s
theorem jqL (n:Nat):(s:Nat)->(be n s).length=s
 | 0=>rfl
 | s+1=>by simp [be,jqL n s]
noncomputable def wB (v:V):List Int:=
 bif v.1==1 then [1,v.2.1]
 else bif v.1==2 then 2::(bif decide (v.2.1<0) then 1 else 0)::be v.2.1.natAbs 6
 else bif v.1==3 then 3::nI v.2.2.size::Z1n v.2.2
 else [0]
theorem jsU {v:V} (h:j0w v=true):(wB v).length<=32:=by
 rcases jho h with rfl | ⟨n,_,rfl⟩ | ⟨n,_,rfl⟩ | ⟨s,b,rfl⟩
 ·show (1:Nat)<=32;omega
 ·show (2:Nat)<=32;omega
 ·show (2::(bif decide (n<0) then 1 else 0)::be n.natAbs 6).length<=32
  simp [jqL]
 ·show (3::nI s.size::Z1n s).length<=32
  simp [jcJ];omega
theorem jc3:(l:List V)->(∀ v∈l,j0w v=true)->(l.flatMap wB).length<=32 * l.length
 | [],_=>by simp
 | v::l,h=>by
  have d:=jsU (h v (by simp))
  have f:=jc3 l λv b=>h v (List.mem_cons_of_mem _ b)
  simp only [List.flatMap_cons,List.length_append,List.length_cons]
  omega
end Go.PI.G
set_option linter.unusedSimpArgs false
namespace Go.PI.G
open Go Go.PI Go.Proofs
theorem jaT (x b d:Int) (k:Bool->Res):j0A x b d k=k (decide (b<=x/\x<=d)):=by
 unfold j0A
 by_cases h:x>=b
 ·rw [decide_eq_true h,cond_true]
  congr 1
  exact decide_eq_decide.2 (by omega)
 ·rw [decide_eq_false h,cond_false]
  congr 1
  exact (decide_eq_false (by omega)).symm
end Go.PI.G
namespace Go.PI.G
open Go Go.PI Go.Proofs
theorem jr8 (n:Int) (k:Bool->Res):jgb n k=k (joX n):=jaT n _ _ k
theorem j9p (v:V) (k:Bool->Res):j1H v k=k (j0w v):=by
 unfold j1H j0w
 cases v.1==0
 ·cases v.1==1
  ·cases v.1==2
   ·cases v.1==3
    ·rfl
    ·cases v.2.1==0<;>rfl
   ·rw [cond_false,cond_false,cond_true,jr8]
    cases joX v.2.1<;>rfl
  ·cases v.2.1==0
   ·cases v.2.1==1<;>rfl
   ·rfl
 ·cases v.2.1==0<;>rfl
theorem j9a (v:V) (k:Bool->Res):j1h v k=k (j0w v):=by
 unfold j1h j0w
 simp only [jaT,jrd]
 cases v.1==0
 ·cases v.1==1
  ·cases v.1==2
   ·cases v.1==3
    ·rfl
    ·cases v.2.1==0<;>rfl
   ·rw [cond_false,cond_false,cond_true,cond_false,cond_false,cond_true]
    show (bif joX v.2.1 then _ else _)=_
    cases joX v.2.1<;>rfl
  ·cases v.2.1==0
   ·cases v.2.1==1<;>rfl
   ·rfl
 ·cases v.2.1==0<;>rfl
end Go.PI.G
namespace Go.PI.G
noncomputable section
open Go Go.PI
def msr:(τ:Ty)->El τ->Nat
 | .str,s=>ByteArray.size s
 | .slice e,l=>List.length (α:=El e) l+(List.map (msr e) l).sum
 | .pair a b,x=>msr a x.1+msr b x.2
 | .int _,_=>0
 | .bool,_=>0
 | .unit,_=>0
def wgt:(τ:Ty)->El τ->Nat
 | .str,_=>1
 | .slice e,l=>(List.map (wgt e) l).sum
 | .pair a b,x=>wgt a x.1+wgt b x.2
 | .int _,_=>1
 | .bool,_=>1
 | .unit,_=>0
def j5h:(τ:Ty)->El τ->Nat
 | .slice e,l=>(List.map (wgt e) l).sum
 | .pair a b,x=>j5h a x.1+j5h b x.2
 | .str,_=>0
 | .int _,_=>0
 | .bool,_=>0
 | .unit,_=>0
def j5f:Ty->Nat
 | .slice e=>j5f e
 | .pair a b=>j5f a+j5f b
 | .unit=>0
 | _=>1
theorem jm4 {α:Type} (f g:α->Nat) (c:Nat) (h:∀ x,f x<=(g x+1) * c):(l:List α)->(l.map f).sum<=(l.length+(l.map g).sum) * c
 | []=>by simp
 | x::l=>by
  have b:=h x
  have d:=jm4 f g c h l
  simp only [List.map_cons,List.sum_cons,List.length_cons]
  have:(l.length+1+(g x+(l.map g).sum)) * c=(g x+1) * c+(l.length+(l.map g).sum) * c:=by
   rw [<-Nat.add_mul];congr 1;omega
  omega
theorem jm5:(τ:Ty)->(x:El τ)->wgt τ x<=(msr τ x+1) * j5f τ
 | .str,_=>by simp [wgt,j5f]
 | .int _,_=>by simp [wgt,j5f]
 | .bool,_=>by simp [wgt,j5f]
 | .unit,_=>by simp [wgt]
 | .pair a b,x=>by
  have f:=jm5 a x.1
  have h:=jm5 b x.2
  simp only [wgt,msr,j5f,Nat.mul_add]
  have d:(msr a x.1+1) * j5f a<=(msr a x.1+msr b x.2+1) * j5f a:=Nat.mul_le_mul_right _ (by omega)
  have g:(msr b x.2+1) * j5f b<=(msr a x.1+msr b x.2+1) * j5f b:=Nat.mul_le_mul_right _ (by omega)
  omega
 | .slice e,l=>by
  have f:=jm4 (wgt e) (msr e) (j5f e) (jm5 e) l
  simp only [wgt,msr,j5f]
  have d:(List.length (α:=El e) l+(List.map (msr e) l).sum) * j5f e<=(List.length (α:=El e) l+(List.map (msr e) l).sum+1) * j5f e:=Nat.mul_le_mul_right _ (by omega)
  exact Nat.le_trans f d
theorem jgc:(τ:Ty)->(x:El τ)->j5h τ x<=wgt τ x
 | .str,_=>Nat.zero_le _
 | .int _,_=>Nat.zero_le _
 | .bool,_=>Nat.zero_le _
 | .unit,_=>Nat.le_refl _
 | .pair a b,x=>Nat.add_le_add (jgc a x.1) (jgc b x.2)
 | .slice e,l=>Nat.le_refl _
theorem j0K {a b:Ty} {x:El (.pair a b)}:msr a x.1<=msr (.pair a b) x:=Nat.le_add_right _ _
theorem j03 {a b:Ty} {x:El (.pair a b)}:msr b x.2<=msr (.pair a b) x:=Nat.le_add_left _ _
def dgt (x:Int):ByteArray:=Z3B [wu8 (Z9K (48+x))]
theorem jeq (x:Int):(dgt x).size=1:=rfl
def jh5 (n:Nat):ByteArray:=if h:n<10 then dgt n else jh5 (n / 10)++dgt ((n % 10:Nat):Int)
termination_by n
decreasing_by omega
def mT (k:Int):ByteArray:=(⟨#[109]⟩:ByteArray)++jh5 k.toNat
def mk:(τ:Ty)->El τ->Int->El τ
 | .str,_,k=>mT k
 | .slice e,l,k=>mkL (wgt e) (mk e) l k
 | .pair a b,x,k=>(mk a x.1 k,mk b x.2 (k+(wgt a x.1:Int)))
 | .int .u8,_,k=>wu8 k
 | .int _,_,k=>k
 | .bool,_,k=>(Int.tmod k 3==0)
 | .unit,x,_=>x
def mkT:(τ:Ty)->El τ->Int->El τ
 | .slice e,l,k=>mkL (wgt e) (mk e) l k
 | .pair a b,x,k=>(mkT a x.1 k,mkT b x.2 (k+(j5h a x.1:Int)))
 | .str,x,_=>x
 | .int _,x,_=>x
 | .bool,x,_=>x
 | .unit,x,_=>x
theorem jcT (e:Ty) (l:List (El e)):msr (.slice e) l=l.length+(l.map (msr e)).sum:=rfl
theorem j0c {e:Ty} {l:List (El e)} {n:Nat} (h:msr (.slice e) l<=n):l.length<=n:=by
 have:msr (.slice e) l=l.length+(l.map (msr e)).sum:=rfl
 omega
theorem j0h {e:Ty} {l:List (El e)} {n:Nat} (h:msr (.slice e) l<=n) {x:El e} (b:x∈l):msr e x<=n:=by
 have d:msr (.slice e) l=l.length+(l.map (msr e)).sum:=rfl
 have:=Z9H (msr e) l x b
 omega
theorem jjc {τ:Ty} {x:El τ} (b:j5f τ<=200) (h:msr τ x<=1048576):wgt τ x<=209715400:=by
 have d:=jm5 τ x
 have f:(msr τ x+1) * j5f τ<=1048577 * 200:=Nat.mul_le_mul (by omega) b
 omega
theorem j12 (a b:Ty) (x:El (.pair a b)):wgt (.pair a b) x=wgt a x.1+wgt b x.2:=rfl
theorem j1s (k:IntKind) (x:El (.int k)):wgt (.int k) x=1:=rfl
theorem j11 (x:El .bool):wgt .bool x=1:=rfl
theorem j1t (x:El .str):wgt .str x=1:=rfl
theorem j1p (a b:Ty) (x:El (.pair a b)) (k:Int):mk (.pair a b) x k=(mk a x.1 k,mk b x.2 (k+(wgt a x.1:Int))):=rfl
theorem j0Z (e:Ty) (l:El (.slice e)) (k:Int):mk (.slice e) l k=mkL (wgt e) (mk e) l k:=rfl
theorem j2u (x:El (.int .i64)) (k:Int):mk (.int .i64) x k=k:=rfl
theorem j57 (x:El (.int .u8)) (k:Int):mk (.int .u8) x k=wu8 k:=rfl
theorem j1o (x:El .bool) (k:Int):mk .bool x k=(Int.tmod k 3==0):=rfl
theorem j2v (x:El .str) (k:Int):mk .str x k=mT k:=rfl
theorem joU (a b:Ty) (x:El (.pair a b)) (k:Int):mkT (.pair a b) x k=(mkT a x.1 k,mkT b x.2 (k+(j5h a x.1:Int))):=rfl
theorem jfs (e:Ty) (l:El (.slice e)) (k:Int):mkT (.slice e) l k=mkL (wgt e) (mk e) l k:=rfl
theorem jjf (i:IntKind) (x:El (.int i)) (k:Int):mkT (.int i) x k=x:=rfl
theorem jhe (x:El .bool) (k:Int):mkT .bool x k=x:=rfl
theorem jjg (x:El .str) (k:Int):mkT .str x k=x:=rfl
theorem jaS (a b:Ty) (x:El (.pair a b)):j5h (.pair a b) x=j5h a x.1+j5h b x.2:=rfl
theorem j8X (i:IntKind) (x:El (.int i)):j5h (.int i) x=0:=rfl
theorem j7b (x:El .bool):j5h .bool x=0:=rfl
theorem j8Y (x:El .str):j5h .str x=0:=rfl
theorem jce {α:Type} (z:α) (l:List α) (i:Nat) (v:α) (h:i<l.length):nth z (upd l (i:Int) v) (i:Int)=v:=by
 rw [ZaF,Zay _ _ _ (by simpa using h)];simp
theorem jcq {α:Type} (l:List α) (i:Int) (u v:α):upd (upd l i u) i v=upd l i v:=by
 unfold upd;simp
theorem jcp {α:Type} (l:List α) (i:Int) (v:α):(upd l i v).length=l.length:=by unfold upd;simp
end
end Go.PI.G
namespace Go.PI.G
open Go Go.PI
theorem js8 {left:Int} (h:0<=left):szR left 0=left:=by unfold szR;rw [if_pos (by omega)];omega
theorem jeV {left:Int} {n rest:Nat} {F:Int->Res} {k:Int->Res} (f:0<=left) (g:left<=1048576) (d:n<=maxLen) (b:(n:Int)<=left->F (left-n)=k (szR (left-n) rest)) :
  (bif decide (Z9K (left-nI n)<0) then k (-1) else F (Z9K (left-nI n)))=k (szR left (n+rest)):=by
 unfold maxLen at d
 rw [ZaH (by unfold nI;omega) (by unfold nI;omega)]
 unfold nI
 by_cases h:(n:Int)<=left
 ·rw [Za4 (by omega),cond_false,b h,Zak h]
 ·rw [Za5 (by omega),cond_true,Zal h]
theorem jbz {left:Int} {k:Int->Res} (b:0<=left):k left=k (szR left 0):=by rw [js8 b]
theorem j00 {i n:Nat} (h:i<n):inb (i:Int) n=true:=ZaK (by omega) (by omega)
theorem j01 {n:Int} (h: -9223372036854775808<=n/\n<9223372036854775808):Z9K n=n:=ZaH h.1 h.2
theorem jsa (n:Nat):Int.tdiv (n:Int) 10=((n / 10:Nat):Int):=by
 rw [Int.tdiv_eq_ediv_of_nonneg (by omega)];omega
theorem jsb (n:Nat):Int.tmod (n:Int) 10=((n % 10:Nat):Int):=by
 rw [Int.tmod_eq_emod_of_nonneg (by omega)];omega
theorem jml {n:Nat} (h:n<10):jh5 n=dgt n:=by rw [jh5,dif_pos h]
theorem jpV {n:Nat} (h:¬ n<10):jh5 n=jh5 (n / 10)++dgt ((n % 10:Nat):Int):=by rw [jh5,dif_neg h]
theorem jn6:∀ (d n:Nat),n<10 ^ (d+1)->(jh5 n).size<=d+1
 | 0,n,h=>by rw [jml (by omega),jeq];exact Nat.le_refl _
 | d+1,n,h=>by
  by_cases b:n<10
  ·rw [jml b,jeq];omega
  ·rw [jpV b,ByteArray.size_append,jeq]
   have:n / 10<10 ^ (d+1):=Nat.div_lt_of_lt_mul (by rw [Nat.pow_succ] at h;omega)
   have:=jn6 d (n / 10) this
   omega
theorem jsN (s:ByteArray):s++eS=s:=by
 show s++ByteArray.empty=s
 simp
end Go.PI.G
namespace Go.PI.G
noncomputable section
open Go Go.PI
abbrev C:=ByteArray×Int×Bool×Bool×V
abbrev T:=ByteArray×List C×List ByteArray
abbrev DB:=List T×List (List (List V))
abbrev yV:Ty:= .pair (.int .i64) (.pair (.int .i64) .str)
abbrev yC:Ty:= .pair .str (.pair (.int .i64) (.pair .bool (.pair .bool yV)))
abbrev yT:Ty:= .pair .str (.pair (.slice yC) (.slice .str))
abbrev yDB:Ty:= .pair (.slice yT) (.slice (.slice (.slice yV)))
abbrev zV:V:=(0,0,eS)
abbrev zC:C:=(eS,0,false,false,0,0,eS)
abbrev zT:T:=(eS,[],[])
theorem jdV {α:Type} (p:α->Bool) (l:List α): -1<=Z9F p l/\Z9F p l<(l.length:Int):=by
 unfold Z9F
 cases h:l.findIdx? p with
 | none=>simp only [];omega
 | some i=>
  have:=(List.findIdx?_eq_some_iff_findIdx_eq.1 h).1
  simp only [];omega
theorem j7e {α:Type} {f:Nat->α->Bool}:(l:List α)->(i:Nat)->Z71 f i l=false->∀ (j:Nat) (h:j<l.length),f (i+j) l[j]=false
 | [],_,_,j,h=>by simp at h
 | x::l,i,h,j,b=>by
  simp only [Z71,Bool.or_eq_false_iff] at h
  cases j with
  | zero=>simpa using h.1
  | succ j=>
   have:=j7e l (i+1) h.2 j (by simpa using b)
   rw [show i+(j+1)=i+1+j by omega]
   simpa using this
def j0u (s:ByteArray):Bool:= !((Z1n s).any λb=>decide (b<97)||decide (b>122))&&(decide (1<=s.size)&&decide (s.size<=8))
def veq (a b:V):Bool:=(a.1==b.1)&&((a.2.1==b.2.1)&&sEq a.2.2 b.2.2)
theorem jgT (a b:V):veq a b=true↔a=b:=by
 obtain ⟨d,f,g⟩:=a
 obtain ⟨h,i,j⟩:=b
 unfold veq
 simp only [Bool.and_eq_true,beq_iff_eq,j0d,Prod.mk.injEq]
def vlt (a b:V):Bool:=j0w a&&(j0w b&&(bif a.1 != b.1 then decide (a.1<b.1) else bif a.2.1 != b.2.1 then decide (a.2.1<b.2.1) else sLt a.2.2 b.2.2))
def jjj (v:V):Bool:=(v.1==0)&&((v.2.1==0)&&sEq v.2.2 eS)
def j1e (c:C):Bool:=j0u c.1&&(decide (1<=c.2.1/\c.2.1<=3)&&(j0w c.2.2.2.2&&(bif c.2.2.2.1 then (c.2.2.2.2.1==c.2.1)||((c.2.2.2.2.1==0)&& !c.2.2.1) else jjj c.2.2.2.2)))
def j02 (l:List C) (n:ByteArray):Int:=Z9F (λc=>sEq c.1 n) l
theorem j7K (l:List C) (n:ByteArray): -1<=j02 l n/\j02 l n<(l.length:Int):=jdV _ _
theorem jrq:j0w (0,0,eS)=true:=by
 show (((0:Int)==0)&&sEq eS eS)=true
 rw [Zah];rfl
theorem jqv:jjj (0,0,eS)=true:=by
 show (((0:Int)==0)&&(((0:Int)==0)&&sEq eS eS))=true
 rw [Zah];rfl
def j18 (l:List C):Int->List ByteArray->Bool
 | _,[]=>true
 | b,k::ks=> !decide (j02 l k<=b)&&((nth zC l (j02 l k)).2.2.1&&j18 l (j02 l k) ks)
def j5t (l:List C):Bool:= !Z71 (λi c=> !j1e c||(j02 l c.1 != (i:Int))) 0 l
def j08 (t:T):Bool:=(j0u t.1&&(decide (1<=t.2.1.length)&&(decide (t.2.1.length<=8)&&decide (1<=t.2.2.length))))&&(j5t t.2.1&&j18 t.2.1 (-1) t.2.2)
def j0a (l:List T) (n:ByteArray):Int:=Z9F (λt=>sEq t.1 n) l
def j25 (c:List T):Bool:=decide (c.length<=6)&& !Z71 (λi t=> !j08 t||(decide (0<i)&&sGe (nth zT c ((i:Int)-1)).1 t.1)) 0 c
def j48 (c:C) (v:V):Bool:=j0w v&&((v.1==c.2.1)||((v.1==0)&& !c.2.2.1))
def j0t (l:List C) (r:List V):Bool:=decide (r.length=l.length)&& !Z71 (λi c=> !j48 c (nth zV r (i:Int))) 0 l
def j06 (t:T) (r:List V):List V:=t.2.2.map λk=>nth zV r (j02 t.2.1 k)
def klt:List V->List V->Bool
 | [],[]=>false
 | [],_::_=>true
 | _::_,[]=>false
 | x::xs,y::ys=>bif veq x y then klt xs ys else vlt x y
def j07 (t:T) (l:List (List V)):Bool:=j08 t&&(decide (l.length<=60)&& !Z71 (λi r=> !j0t t.2.1 r||(decide (0<i)&& !klt (j06 t (nth [] l ((i:Int)-1))) (j06 t r))) 0 l)
def dbB (d:DB):Bool:=j25 d.1&&(decide (d.2.length=d.1.length)&& !Z71 (λi t=> !j07 t (nth [] d.2 (i:Int))) 0 d.1)
theorem j0R {t:T} (h:j08 t=true):j0u t.1=true/\1<=t.2.1.length/\t.2.1.length<=8/\1<=t.2.2.length/\j5t t.2.1=true/\j18 t.2.1 (-1) t.2.2=true:=by
 unfold j08 at h
 simp only [Bool.and_eq_true,decide_eq_true_eq] at h
 exact ⟨h.1.1,h.1.2.1,h.1.2.2.1,h.1.2.2.2,h.2.1,h.2.2⟩
theorem j19 {l:List C}:(ks:List ByteArray)->(b:Int)-> -1<=b->j18 l b ks=true->∀ k∈ks,0<=j02 l k/\j02 l k<(l.length:Int)
 | [],_,_,_,k,d=>by cases d
 | q::ks,b,i,h,k,d=>by
  simp only [j18,Bool.and_eq_true,Bool.not_eq_true',decide_eq_false_iff_not] at h
  have f:=(jdV (λc:C=>sEq c.1 q) l).2
  have g:0<=j02 l q:=by omega
  rcases List.mem_cons.1 d with rfl | d
  ·exact ⟨g,f⟩
  ·exact j19 ks (j02 l q) (by omega) h.2.2 k d
theorem jss {c:C} (h:j1e c=true):1<=c.2.1/\c.2.1<=3:=by
 unfold j1e at h
 simp only [Bool.and_eq_true,decide_eq_true_eq] at h
 exact h.2.1
theorem jn3 {l:List C} (h:j5t l=true) (i:Nat) (b:i<l.length):j1e l[i]=true:=by
 unfold j5t at h
 have:=j7e l 0 (by simpa using h) i b
 simp only [Bool.or_eq_false_iff,Bool.not_eq_false'] at this
 exact this.1
end
end Go.PI.G
namespace Go.PI.G
open Go Go.PI Go.Proofs
theorem jqM (s:ByteArray) (i:Nat) (h:i<(Z1n s).length):bt s (i:Int)=(Z1n s)[i]:=by
 have g:=jcJ s
 have d:i<s.data.size:=by
  have:i<s.size:=by omega
  exact this
 have f:(Z1n s)[i]=((s.data.toList.map λb:UInt8=>(b.toNat:Int))[i]'(by simpa using d)):=rfl
 rw [f,List.getElem_map]
 unfold bt
 simp [Array.getElem?_eq_getElem d]
theorem jsf (s:ByteArray) (x:Bool) (k:Bool->Res):(bif x then k false else (bif decide ((nI (ByteArray.size s))>=1) then k (decide ((nI (ByteArray.size s))<=8)) else k false))=k (!x&&(decide (1<=s.size)&&decide (s.size<=8))):=by
 cases x
 ·unfold nI
  by_cases b:1<=s.size
  ·rw [cond_false,decide_eq_true (show (s.size:Int)>=1 by omega),cond_true,decide_eq_true b]
   congr 1
   by_cases d:s.size<=8
   ·rw [decide_eq_true (show (s.size:Int)<=8 by omega),decide_eq_true d];rfl
   ·rw [decide_eq_false (show ¬ (s.size:Int)<=8 by omega),decide_eq_false d];rfl
  ·rw [cond_false,decide_eq_false (show ¬ (s.size:Int)>=1 by omega),cond_false,decide_eq_false b];rfl
 ·rfl
theorem j69 (s:ByteArray) (h:s.size<=LIM) (k:Bool->Res):j0M s k=k (j0u s):=by
 unfold j0M jgP
 have g:=jcJ s
 have:=Za2 (Z1n s) (λi=>i) (λb=>decide (b<97)||decide (b>122)) (step:=jaw s) ((λ(_:Unit)=>bif decide ((nI (ByteArray.size s))>=1) then k (decide ((nI (ByteArray.size s))<=8)) else k false),(λ(_:Unit)=>k false)) (bif decide ((nI (ByteArray.size s))>=1) then k (decide ((nI (ByteArray.size s))<=8)) else k false) (k false) (by omega) (λi rec f=>by
  show j4U s _ _ _ _=_
  unfold j4U
  unfold LIM at h
  have d:i<s.size:=by omega
  rw [ZaQ d,cond_true,j00 d,cond_true,cond_true,jqM s i f,j01 (n:=(i:Int)+1) (by omega)]
  cases decide ((Z1n s)[i]<97)
  ·cases decide ((Z1n s)[i]>122)<;>rfl
  ·rfl) (λrec=>by
  show j4U s _ _ _ _=_
  unfold j4U
  rw [g,ZaP,cond_false])
 refine this.trans ?_
 exact jsf s _ k
theorem j61 (s:ByteArray) (h:s.size<=LIM) (k:Bool->Res):j0F s k=k (j0u s):=by
 unfold j0F jc7
 have j:=jcJ s
 have:=Za2 (Z1n s) (λi=>i) (λb=>decide (b<97)||decide (b>122)) (step:=j7g s) ((λ(_:Unit)=>j0A (nI (ByteArray.size s)) 1 8 λ(r:Bool)=>k r),(λ(_:Unit)=>k false)) (j0A (nI (ByteArray.size s)) 1 8 λ(r:Bool)=>k r) (k false) (by omega) (λi rec g=>by
  show j4s s _ _ _ _=_
  unfold j4s
  unfold LIM at h
  have d:i<s.size:=by omega
  rw [ZaQ d,cond_true,j00 d,cond_true,cond_true,jqM s i g,j01 (n:=(i:Int)+1) (by omega)]
  cases decide ((Z1n s)[i]<97)
  ·cases decide ((Z1n s)[i]>122)<;>rfl
  ·rfl) (λrec=>by
  show j4s s _ _ _ _=_
  unfold j4s
  rw [j,ZaP,cond_false])
 refine this.trans ?_
 rw [jaT]
 have f:decide (1<=nI s.size/\nI s.size<=8)=(decide (1<=s.size)&&decide (s.size<=8)):=by
  rw [<-Bool.decide_and]
  exact decide_eq_decide.2 (by unfold nI;omega)
 rw [f]
 unfold j0u
 cases (Z1n s).any λb=>decide (b<97)||decide (b>122)<;>rfl
end Go.PI.G
namespace Go.PI.G
open Go Go.PI Go.Proofs
theorem jm0 (c:C) (h:c.1.size<=LIM) (k:Bool->Res):j5N c k=k (j1e c):=by
 obtain ⟨n,ty,w,r,d⟩:=c
 unfold j5N j1e
 dsimp only at h ⊢
 rw [j69 n h,j9p]
 cases j0u n
 ·rfl
 ·rw [Bool.not_true,cond_false,Bool.true_and]
  by_cases p:1<=ty/\ty<=3
  ·rw [decide_eq_false (show ¬ ty<1 by omega),cond_false,decide_eq_false (show ¬ ty>3 by omega),cond_false,decide_eq_true p,Bool.true_and]
   cases r
   ·rw [Bool.not_false,cond_true,cond_false]
    have:j0w d=false->jjj d=false:=λj=>by
     cases i:jjj d with
     | false=>rfl
     | true=>
      unfold jjj at i
      simp only [Bool.and_eq_true,beq_iff_eq,j0d] at i
      have:d=(0,0,eS):=by
       obtain ⟨a,b,c⟩:=d
       simp only at i
       rw [i.1,i.2.1,i.2.2]
      rw [this,jrq] at j
      cases j
    cases j:j0w d
    ·rw [Bool.false_and]
     exact congrArg k (this j)
    ·rfl
   ·rw [Bool.not_true,cond_false,cond_true]
    cases j:j0w d
    ·rfl
    ·rw [cond_true,Bool.true_and]
     have g:(d.1==0)=true->((d.1==0)&&((d.2.1==0)&&sEq d.2.2 eS))=true:=λf=>by
      rcases jho j with rfl | ⟨m,_,rfl⟩ | ⟨m,_,rfl⟩ | ⟨m,_,rfl⟩
      ·exact jqv
      ·cases f
      ·cases f
      ·cases f
     cases f:d.1==0
     ·rw [Bool.false_and,cond_false]
      cases d.1==ty<;>rfl
     ·have:=g f
      rw [f] at this
      rw [this,cond_true,cond_true]
      have l:(d.1==ty)=false:=by
       simp only [beq_iff_eq] at f
       rw [f];simp;omega
      rw [l,Bool.false_or,Bool.true_and]
  ·rw [decide_eq_false p]
   by_cases q:ty<1
   ·rw [decide_eq_true q];rfl
   ·rw [decide_eq_false q,cond_false,decide_eq_true (show ty>3 by omega)];rfl
theorem jlm (c:C) (h:c.1.size<=LIM) (k:Bool->Res):j5v c k=k (j1e c):=by
 obtain ⟨n,ty,f,d,b⟩:=c
 unfold j5v j1e
 dsimp only at h ⊢
 rw [j61 n h,jaT,j9a]
 cases j0u n
 ·rfl
 ·cases decide (1<=ty/\ty<=3)
  ·rfl
  ·cases j0w b
   ·rfl
   ·cases d
    ·rfl
    ·cases b.1==ty
     ·cases b.1==0<;>rfl
     ·rfl
theorem j7a (t:T) (n:ByteArray) (h:t.2.1.length<=LIM) (k:Int->Res):j0Q t n k=k (j02 t.2.1 n):=by
 unfold j0Q ji1
 refine Z9S t.2.1 (λi=>i) (λc=>sEq c.1 n) (step:=jbv n t.2.1 (nI t.2.1.length)) _ k h (λi rec b=> ?_) (λrec=> ?_)
 ·show j5M n _ _ _ _ _ _=_
  unfold j5M
  unfold LIM at h
  rw [ZaQ b,cond_true,j00 b,cond_true,Zay _ _ _ b,j01 (n:=(i:Int)+1) (by omega)]
 ·show j5M n _ _ _ _ _ _=_
  unfold j5M
  rw [ZaP,cond_false]
theorem j8s (t:T) (n:ByteArray) (h:t.2.1.length<=LIM) (k:Int->Res):j0l t n k=k (j02 t.2.1 n):=by
 unfold j0l j7o j9u
 refine Z9S t.2.1 (λi=>i) (λc=>sEq c.1 n) (step:=j4b t.2.1 n (nI t.2.1.length)) _ k h (λi rec b=> ?_) (λrec=> ?_)
 ·show j15 _ n _ _ _ _ _=_
  unfold j15 jfZ
  unfold LIM at h
  rw [ZaQ b,cond_true,j00 b,cond_true,Zay _ _ _ b,j01 (n:=(i:Int)+1) (by omega)]
 ·show j15 _ n _ _ _ _ _=_
  unfold j15
  rw [ZaP,cond_false]
theorem j1l {t:T} (h:msr yT t<=1048576):t.1.size<=1048576/\t.2.1.length<=1048576/\t.2.2.length<=1048576/\(∀ c∈t.2.1,c.1.size<=1048576)/\∀ x∈t.2.2,x.size<=1048576:=by
 have i:msr yT t=t.1.size+(msr (.slice yC) t.2.1+msr (.slice .str) t.2.2):=rfl
 have b:msr (.slice yC) t.2.1<=1048576:=by omega
 have d:msr (.slice .str) t.2.2<=1048576:=by omega
 refine ⟨by omega,j0c b,j0c d,λc f=> ?_,λx g=>j0h d g⟩
 have:=j0h b f
 have j:msr yC c=c.1.size+msr (.pair (.int .i64) (.pair .bool (.pair .bool yV))) c.2:=rfl
 omega
noncomputable def tSm (t:T):Prop:=t.1.size<=1048576/\t.2.1.length<=1048576/\t.2.2.length<=1048576/\(∀ c∈t.2.1,c.1.size<=1048576)/\∀ x∈t.2.2,x.size<=1048576
theorem jod (t:T) (h:tSm t) (a b:Unit->Res):j8k t.2.1 (nI t.2.1.length) t Z1c 0 a b=bif j5t t.2.1 then a () else b ():=by
 have f:=h
 obtain ⟨j,k,l,g,m⟩:=f
 unfold j8k
 have:=Z9P t.2.1 (λi=>i) (λi c=> !j1e c||(j02 t.2.1 c.1 != (i:Int))) (step:=j3X t.2.1 (nI t.2.1.length) t) (a,b) (a ()) (b ()) (by unfold LIM;omega) (λi rec d=>by
  show j2g _ _ t _ _ _ _=_
  unfold j2g
  rw [ZaQ d,cond_true,j00 d,cond_true,Zay _ _ _ d,jm0 _ (by have:=g _ (List.getElem_mem d);unfold LIM;omega),j7a t _ (by unfold LIM;omega),j01 (n:=(i:Int)+1) (by omega)]
  cases j1e t.2.1[i]
  ·rfl
  ·cases j02 t.2.1 t.2.1[i].1 != (i:Int)<;>rfl) (λrec=>by
  show j2g _ _ t _ _ _ _=_
  unfold j2g
  rw [ZaP,cond_false])
 refine this.trans ?_
 unfold j5t
 cases Z71 (λi c=> !j1e c||(j02 t.2.1 c.1 != (i:Int))) 0 t.2.1<;>rfl
theorem jnK (t:T) (h:tSm t) (a b:Unit->Res):j86 t.2.1 (nI t.2.1.length) t Z1c 0 a b=bif j5t t.2.1 then a () else b ():=by
 have f:=h
 obtain ⟨j,k,l,g,m⟩:=f
 unfold j86
 have:=Z9P t.2.1 (λi=>i) (λi c=> !j1e c||(j02 t.2.1 c.1 != (i:Int))) (step:=j3E t.2.1 (nI t.2.1.length) t) (a,b) (a ()) (b ()) (by unfold LIM;omega) (λi rec d=>by
  show j2e _ _ t _ _ _ _=_
  unfold j2e
  rw [ZaQ d,cond_true,j00 d,cond_true,Zay _ _ _ d,jlm _ (by have:=g _ (List.getElem_mem d);unfold LIM;omega),j8s t _ (by unfold LIM;omega),j01 (n:=(i:Int)+1) (by omega)]
  cases j1e t.2.1[i]
  ·rfl
  ·cases j02 t.2.1 t.2.1[i].1 != (i:Int)<;>rfl) (λrec=>by
  show j2e _ _ t _ _ _ _=_
  unfold j2e
  rw [ZaP,cond_false])
 refine this.trans ?_
 unfold j5t
 cases Z71 (λi c=> !j1e c||(j02 t.2.1 c.1 != (i:Int))) 0 t.2.1<;>rfl
noncomputable def j9e (l:List C) (b:Int) (k:ByteArray):Except Unit Int:=bif decide (j02 l k<=b) then .error () else bif !(nth zC l (j02 l k)).2.2.1 then .error () else .ok (j02 l k)
theorem jiu (l:List C):(ks:List ByteArray)->(i:Nat)->(b:Int)->(∃ z,Z1S (λ_ b k=>j9e l b k) i ks b= .ok z/\j18 l b ks=true)\/(Z1S (λ_ b k=>j9e l b k) i ks b= .error ()/\j18 l b ks=false)
 | [],_,b=> .inl ⟨b,rfl,rfl⟩
 | k::ks,i,b=>by
  have d:=jiu l ks (i+1) (j02 l k)
  simp only [Z1S,j18,j9e] at d ⊢
  cases decide (j02 l k<=b)
  ·cases (nth zC l (j02 l k)).2.2.1
   ·exact .inr ⟨rfl,rfl⟩
   ·exact d
  ·exact .inr ⟨rfl,rfl⟩
theorem jof (t:T) (h:tSm t) (a b:Unit->Res):j8l t.2.2 (nI t.2.2.length) t Z1c (-1) 0 a b=bif j18 t.2.1 (-1) t.2.2 then a () else b ():=by
 have q:=h
 obtain ⟨w,y,A,B,C⟩:=q
 unfold j8l
 have:=Z3Z t.2.2 (λi d=>(d,i)) (λ_ d k=>j9e t.2.1 d k) (λ_ d=> -1<=d) (step:=j6g t.2.2 (nI t.2.2.length) t) (a,b) (λ_=>a ()) (λ_=>b ()) (-1) (by unfold LIM;omega) (by omega) (λi d m l p g=>by
  unfold j9e at g
  have:=(j7K t.2.1 t.2.2[i]).1
  cases f:decide (j02 t.2.1 t.2.2[i]<=d)
  ·rw [f,cond_false] at g
   cases j:(nth zC t.2.1 (j02 t.2.1 t.2.2[i])).2.2.1
   ·rw [j] at g;cases g
   ·rw [j] at g
    cases g
    exact this
  ·rw [f] at g;cases g) (λi d rec l p=>by
  show j3Y _ _ t _ _ _ _ _=_
  unfold j3Y
  dsimp only
  rw [ZaQ l,cond_true,j00 l,cond_true,Zay _ _ _ l,j7a t _ (by unfold LIM;omega),j01 (n:=(i:Int)+1) (by omega)]
  unfold j9e
  by_cases f:j02 t.2.1 t.2.2[i]<=d
  ·rw [decide_eq_true f];rfl
  ·have r:=(j7K t.2.1 t.2.2[i]).2
   rw [decide_eq_false f,cond_false,cond_false,ZaK (by omega) r,cond_true]
   cases (nth zC t.2.1 (j02 t.2.1 t.2.2[i])).2.2.1<;>rfl) (λd rec _=>by
  show j3Y _ _ t _ _ _ _ _=_
  unfold j3Y
  dsimp only
  rw [ZaP,cond_false])
 refine this.trans ?_
 rcases jiu t.2.1 t.2.2 0 (-1) with ⟨z,f,j⟩ | ⟨f,j⟩<;>rw [f,j]<;>rfl
theorem jnM (t:T) (h:tSm t) (a b:Unit->Res):j87 t.2.2 (nI t.2.2.length) t Z1c (-1) 0 a b=bif j18 t.2.1 (-1) t.2.2 then a () else b ():=by
 have q:=h
 obtain ⟨w,y,A,B,C⟩:=q
 unfold j87
 have:=Z3Z t.2.2 (λi d=>(d,i)) (λ_ d k=>j9e t.2.1 d k) (λ_ d=> -1<=d) (step:=j6d t.2.2 (nI t.2.2.length) t) (a,b) (λ_=>a ()) (λ_=>b ()) (-1) (by unfold LIM;omega) (by omega) (λi d m l p g=>by
  unfold j9e at g
  have:=(j7K t.2.1 t.2.2[i]).1
  cases f:decide (j02 t.2.1 t.2.2[i]<=d)
  ·rw [f,cond_false] at g
   cases j:(nth zC t.2.1 (j02 t.2.1 t.2.2[i])).2.2.1
   ·rw [j] at g;cases g
   ·rw [j] at g
    cases g
    exact this
  ·rw [f] at g;cases g) (λi d rec l p=>by
  show j3F _ _ t _ _ _ _ _=_
  unfold j3F
  dsimp only
  rw [ZaQ l,cond_true,j00 l,cond_true,Zay _ _ _ l,j8s t _ (by unfold LIM;omega),j01 (n:=(i:Int)+1) (by omega)]
  unfold j9e
  by_cases f:j02 t.2.1 t.2.2[i]<=d
  ·rw [decide_eq_true f];rfl
  ·have r:=(j7K t.2.1 t.2.2[i]).2
   rw [decide_eq_false f,cond_false,cond_false,ZaK (by omega) r,cond_true]
   cases (nth zC t.2.1 (j02 t.2.1 t.2.2[i])).2.2.1<;>rfl) (λd rec _=>by
  show j3F _ _ t _ _ _ _ _=_
  unfold j3F
  dsimp only
  rw [ZaP,cond_false])
 refine this.trans ?_
 rcases jiu t.2.1 t.2.2 0 (-1) with ⟨z,f,j⟩ | ⟨f,j⟩<;>rw [f,j]<;>rfl
theorem js9 (t:T) (k:Bool->Res):j5T t k=j0M t.1 λw=>k (!(w&&(decide (1<=t.2.1.length)&&(decide (t.2.1.length<=8)&&decide (1<=t.2.2.length))))):=by
 unfold j5T
 congr 1
 funext w
 unfold nI
 cases w
 ·rfl
 ·rw [Bool.not_true,cond_false,Bool.true_and]
  by_cases b:1<=t.2.1.length
  ·rw [decide_eq_false (show ¬ (t.2.1.length:Int)<1 by omega),cond_false,decide_eq_true b,Bool.true_and]
   by_cases d:t.2.1.length<=8
   ·rw [decide_eq_false (show ¬ (t.2.1.length:Int)>8 by omega),cond_false,decide_eq_true d,Bool.true_and]
    congr 1
    by_cases f:1<=t.2.2.length
    ·rw [decide_eq_false (show ¬ (t.2.2.length:Int)<1 by omega),decide_eq_true f];rfl
    ·rw [decide_eq_true (show (t.2.2.length:Int)<1 by omega),decide_eq_false f];rfl
   ·rw [decide_eq_true (show (t.2.1.length:Int)>8 by omega),decide_eq_false d];rfl
  ·rw [decide_eq_true (show (t.2.1.length:Int)<1 by omega),decide_eq_false b];rfl
theorem jka (t:T) (h:tSm t) (k:Bool->Res):j0o t k=k (j08 t):=by
 have b:=h
 obtain ⟨d,f,g,i,j⟩:=b
 unfold j0o j08
 rw [js9,j69 _ (by unfold LIM;omega),jod t h,jof t h]
 cases j0u t.1&&(decide (1<=t.2.1.length)&&(decide (t.2.1.length<=8)&&decide (1<=t.2.2.length)))
 ·rfl
 ·cases j5t t.2.1
  ·rfl
  ·cases j18 t.2.1 (-1) t.2.2<;>rfl
theorem jjX (t:T) (h:tSm t) (k:Bool->Res):j0S t k=k (j08 t):=by
 have d:=h
 obtain ⟨g,i,j,l,m⟩:=d
 unfold j0S j08
 rw [j61 _ (by unfold LIM;omega),jaT,jnK t h,jnM t h]
 have b:decide (1<=nI t.2.1.length/\nI t.2.1.length<=8)=(decide (1<=t.2.1.length)&&decide (t.2.1.length<=8)):=by
  rw [<-Bool.decide_and]
  exact decide_eq_decide.2 (by unfold nI;omega)
 have f:decide (nI t.2.2.length>0)=decide (1<=t.2.2.length):=decide_eq_decide.2 (by unfold nI;omega)
 rw [b,f]
 cases j5t t.2.1
 ·rw [Bool.false_and,Bool.and_false];rfl
 ·cases j18 t.2.1 (-1) t.2.2
  ·rw [Bool.and_false,Bool.and_false];rfl
  ·cases j0u t.1
   ·rfl
   ·cases decide (1<=t.2.1.length)
    ·rfl
    ·cases decide (t.2.1.length<=8)
     ·rfl
     ·cases decide (1<=t.2.2.length)<;>rfl
theorem j9o (t:T) (h:msr yT t<=1048576) (k:Bool->Res):j0o t k=k (j08 t):=jka t (j1l h) k
theorem jh9 (t:T) (h:msr yT t<=1048576) (k:Bool->Res):j0S t k=k (j08 t):=jjX t (j1l h) k
theorem jov (c:List T) (i:Nat) (d:i<c.length) (b:c.length<=LIM) (x:Res) (y:Res):(bif decide ((i:Int)>0) then (bif inb (Z9K ((i:Int)-1)) c.length then (bif sGe (nth zT c (Z9K ((i:Int)-1))).1 c[i].1 then x else y) else none) else y) =
  bif (decide (0<i)&&sGe (nth zT c ((i:Int)-1)).1 c[i].1) then x else y:=by
 by_cases h:0<i
 ·unfold LIM at b
  rw [decide_eq_true (show (i:Int)>0 by omega),decide_eq_true h,cond_true,j01 (by omega),ZaK (by omega) (by omega),cond_true,Bool.true_and]
 ·rw [decide_eq_false (show ¬ (i:Int)>0 by omega),decide_eq_false h];rfl
end Go.PI.G
namespace Go.PI.G
open Go Go.PI Go.Proofs
theorem jpM (a b:V) (k:Bool->Res):j8W a b k=k (vlt a b):=by
 unfold j8W vlt
 rw [j9p,j9p]
 cases j0w a
 ·rfl
 ·cases j0w b
  ·rfl
  ·rw [Bool.not_true,cond_false,cond_false,Bool.true_and,Bool.true_and]
   cases a.1 != b.1
   ·rw [cond_false,cond_false]
    by_cases h:a.2.1=b.2.1
    ·rw [h,ZaO,cond_false,decide_eq_false (by omega),cond_false,beq_self_eq_true,cond_true]
    ·have d:(a.2.1 != b.2.1)=true:=by simp [h]
     have f:(a.2.1==b.2.1)=false:=by simp [h]
     rw [d,f,cond_true,cond_false]
     cases decide (a.2.1<b.2.1)<;>rfl
   ·rfl
theorem jpE (a b:V) (k:Bool->Res):j8w a b k=k (vlt a b):=by
 unfold j8w vlt
 rw [j9a,j9a]
 cases j0w a
 ·rfl
 ·cases j0w b
  ·rfl
  ·rw [Bool.not_true,cond_false,cond_false,Bool.true_and,Bool.true_and]
   cases a.1 != b.1
   ·rw [cond_false,cond_false]
    cases a.2.1 != b.2.1<;>rfl
   ·rfl
end Go.PI.G
