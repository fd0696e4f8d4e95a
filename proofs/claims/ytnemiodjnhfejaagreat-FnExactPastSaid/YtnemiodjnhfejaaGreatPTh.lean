/-
  Program's code interpreted over typed values; printed texts; plain laws. No conditions.
-/
import Derived.Test.YtnemiodjnhfejaaGreatPTd
import Derived.Test.YtnemiodjnhfejaaGreatPTg
import Derived.Test.YtnemiodjnhfejaaGreatPTe
import Derived.Test.YtnemiodjnhfejaaGreatPTf
set_option linter.unusedVariables false
set_option maxRecDepth 100000
namespace Go.PI.G
noncomputable section
open Go Go.PI Go.Proofs
open Go.Code (pl pr)
def j3l (f:List qP) (g:Int) (d:List Int) (b:Int) (rec:(List Int)->Int->Res) (h:(List Int)->Res):Res:=bif decide (b<g) then bif inb b (List.length f) then bif ((nth (0,0,0,eS,[],[],0,eS,[],[],eS,eS) f b).1==3) then bif lim ((List.length d)+1) then rec (d++[Z9K (b+1)]) (Z9K (b+1)) else none else rec d (Z9K (b+1)) else none else h d
def j5R (d:List qP) (f:Int):((List Int)×Int)->((List Int)×Int->Res)->(((List Int)->Res))->Res:=λv rec q=>j3l d f v.1 v.2 (λb g=>rec (b,g)) q
def jbt (d:List qP) (f:Int) (n:Nat) (b:List Int) (g:Int) (h:(List Int)->Res):Res:=Z1f (j5R d f) n (b,g) (h)
def jay:Z1d Unit:=NdL 28 28 [.R 3 y21 .O,.R 11 y20 .S,.I 12,.I 13] [] (λb f=>(b.1,b.2.2.2.1)) (λb v=>(v.1,b.2.1,b.2.2.1,v.2,())) (λf v=>()) (λb f=>j5R b.2.1 b.2.2.1) λb f g=>((λd=>g (.exit 0) [(3,v1 y21 d .O)] []))
theorem jkJ:CN 0 122 Tryz.f108 jay:=lK (Za6 jee Zas) [] oN ([],[]) [(0,[3],[])] ([],[]) λ_ _ _ _ _=>by kernel_rfl
def j6J (l:List qP) (d:(List Int)->Res):Res:=j94 l λr=>bif !r then d [] else jbt l (nI (List.length l)) Z1c [] 0 λb=>d b
def jck:Sig Unit:=sg [.borrow y20 false] [false] [(y20,none)] [] λd f k=>j6J d.1 (λb=>k [w1 y21 b .O] [] [])
theorem jmv:SO 108 jck:=fK (np:=0) (Za6 jee Zas) [jay] (oI 122 0 @jkJ oN) false Tryz.func108 λ_ _ _ _=>by delta j6J jeM jay jbt;refine gz j94 λ_ b=>gz j5R λ_ d=> ?_;rewrite [<-b,<-d];kernel_rfl
def j3b (f:List qP) (g:Int) (d:List Int) (b:Int) (rec:(List Int)->Int->Res) (h:(List Int)->Res):Res:=bif decide (b<g) then bif inb b (List.length f) then bif ((nth (0,0,0,eS,[],[],0,eS,[],[],eS,eS) f b).1==3) then bif lim ((List.length d)+1) then rec (d++[Z9K (b+1)]) (Z9K (b+1)) else none else rec d (Z9K (b+1)) else none else h d
def j5K (d:List qP) (f:Int):((List Int)×Int)->((List Int)×Int->Res)->(((List Int)->Res))->Res:=λv rec q=>j3b d f v.1 v.2 (λb g=>rec (b,g)) q
def jaZ (d:List qP) (f:Int) (n:Nat) (b:List Int) (g:Int) (h:(List Int)->Res):Res:=Z1f (j5K d f) n (b,g) (h)
def jas:Z1d Unit:=NdL 28 28 [.R 3 y21 .O,.R 11 y20 .S,.I 12,.I 13] [] (λb f=>(b.1,b.2.2.2.1)) (λb v=>(v.1,b.2.1,b.2.2.1,v.2,())) (λf v=>()) (λb f=>j5K b.2.1 b.2.2.1) λb f g=>((λd=>g (.exit 0) [(3,v1 y21 d .O)] []))
theorem jku:CN 0 122 Tryz.f109 jas:=lK (Za6 je5 Zas) [] oN ([],[]) [(0,[3],[])] ([],[]) λ_ _ _ _ _=>by kernel_rfl
def j6a (l:List qP) (d:(List Int)->Res):Res:=j73 l λr=>bif !r then d [] else jaZ l (nI (List.length l)) Z1c [] 0 λb=>d b
def jcf:Sig Unit:=sg [.borrow y20 false] [false] [(y20,none)] [] λd f k=>j6a d.1 (λb=>k [w1 y21 b .O] [] [])
theorem jmo:SO 109 jcf:=fK (np:=0) (Za6 je5 Zas) [jas] (oI 122 0 @jku oN) false Tryz.func109 λ_ _ _ _=>by delta j6a jbl jas jaZ;refine gz j73 λ_ b=>gz j5K λ_ d=> ?_;rewrite [<-b,<-d];kernel_rfl
end
end Go.PI.G
namespace Go.PI.G
noncomputable section
open Go Go.PI Go.Proofs
open Go.Code (pl pr)
def j6M (l:List qP) (d:qB) (g:List qV) (place:Int) (f:qW->Bool->Res):Res:=jaK l place λr i=>j1v r.1 d λb=>bif !i then f [] false else bif decide (b<0) then f [] false else bif inb b (List.length r.1) then bif inb b (List.length r.2) then j1f (nth (eS,[],[]) r.1 b) (nth [] r.2 b) g λh=>bif decide (h<0) then f [] false else bif inb b (List.length r.2) then bif inb h (List.length (nth [] r.2 b)) then j0b (nth [] (nth [] r.2 b) h) λj=>f j true else none else none else none else none
def jcm:Sig Unit:=sg [.borrow y20 false,.borrow .str false,.borrow y3 false,.borrow tI false] [true,false] [(y20,none),(.str,none),(y3,none),(tI,none)] [] λb g k=>j6M b.1 b.2.1 b.2.2.1 b.2.2.2.1 (λd f=>k [⟨y3,true,d,[.O]⟩,wB f] [] [])
theorem jmx:SO 48 jcm:=fK (np:=0) (Za6 jq7 (Za6 jaT (Za6 jaS (Za6 j24 Zas)))) [] oN false Tryz.func48 λ_ _ _ _=>by delta j6M jk2 j2M j8v j27;refine gz jaK λ_ b=>gz j1v λ_ d=>gz j1f λ_ f=>gz j0b λ_ g=> ?_;rewrite [<-b,<-d,<-f,<-g];kernel_rfl
theorem jfW:FS [(48,jcm),(108,jck),(115,j27),(126,j5o)]:=(Za6 jmx (Za6 jmv (Za6 j24 (Za6 jcP Zas))))
def j8C (b:Bool) (ok:Bool) (row:List qV) (r:List qV) (d:Bool->Res):Res:=bif !(ok==b) then d true else j2t r row λf=>d (!f)
def ja3:Z1d Unit:=Nd 54 54 [.R 0 y20 .S,.S 1,.R 2 y3 .S,.R 7 y26 .O,.t 8 (pB 8),.B 9,.I 11,.t 12 (pB 12),.B 13,.R 17 y21 .O,.I 18,.I 19] [(8,y3,[.O]),(12,y3,[.O])] λb d g=>j8C b.2.2.2.2.1 b.2.2.2.2.2.2.1 d.1.2 d.2.1.2 (λf=>g .normal [(0,v1 y20 b.1 .S),(1,vS b.2.1),(2,v1 y3 b.2.2.1 .S),(7,v1 y26 b.2.2.2.1 .O),(8,pB 8),(11,vI b.2.2.2.2.2.1),(12,pB 12),(13,vB b.2.2.2.2.2.2.1),(17,v1 y21 b.2.2.2.2.2.2.2.1 .O),(18,vI b.2.2.2.2.2.2.2.2.1),(19,vI b.2.2.2.2.2.2.2.2.2.1),(41,vB f)] [(8,⟨y3,d.1.1,d.1.2,[.O]⟩),(12,⟨y3,d.2.1.1,d.2.1.2,[.O]⟩)])
theorem joq:CN 0 128204 Tryz.f59 ja3:=nK jfW [] oN ([0,1,2,7,8,11,12,13,17,18,19,41],[8,12]) [] ([],[]) λ_ _ _=>by kernel_rfl
def j3U (l:List qP) (g:qB) (j:List qV) (f:List Int) (k:Int) (d:List (Int×qW×Bool)) (i:Bool) (b:Int) (row:List qV) (rec:(List (Int×qW×Bool))->Bool->Int->qW->Res) (m:(List (Int×qW×Bool))->Res):Res:=bif decide (b<k) then bif inb b (List.length f) then j6M l g j (nth 0 f b) λr h=>j8C i h row r λt=>bif t then j0b r λn=>bif lim ((List.length d)+1) then rec (d++[(nth 0 f b,n,h)]) h (Z9K (b+1)) r else none else rec d h (Z9K (b+1)) r else none else m d
def j6L (l:List qP) (b:qB) (f:List qV) (h:List Int) (i:Int):((List (Int×qW×Bool))×Bool×Int×qW)->((List (Int×qW×Bool))×Bool×Int×qW->Res)->(((List (Int×qW×Bool))->Res))->Res:=λv rec q=>j3U l b f h i v.1 v.2.1 v.2.2.1 v.2.2.2 (λg d j row=>rec (g,d,j,row)) q
def jeQ (l:List qP) (b:qB) (f:List qV) (h:List Int) (i:Int) (n:Nat) (g:List (Int×qW×Bool)) (d:Bool) (j:Int) (row:List qV) (k:(List (Int×qW×Bool))->Res):Res:=Z1f (j6L l b f h i) n (g,d,j,row) (k)
def jdz:Z1d Unit:=NdL 54 54 [.R 0 y20 .S,.S 1,.R 2 y3 .S,.R 7 y26 .O,.t 8 (pB 8),.B 9,.R 17 y21 .O,.I 18,.I 19] [(8,y3,[.O])] (λb f=>(b.2.2.2.1,b.2.2.2.2.1,b.2.2.2.2.2.2.2.1,f.1.2)) (λb v=>(b.1,b.2.1,b.2.2.1,v.1,v.2.1,b.2.2.2.2.2.1,b.2.2.2.2.2.2.1,v.2.2.1,())) (λf v=>((f.1.1,v.2.2.2),())) (λb f=>j6L b.1 b.2.1 b.2.2.1 b.2.2.2.2.2.1 b.2.2.2.2.2.2.1) λb f g=>((λd=>g (.exit 0) [(7,v1 y26 d .O)] []))
theorem jop:CN 0 250 Tryz.f59 jdz:=lK jfW [ja3] (oI 460 0 @joq oN) ([],[]) [(0,[7],[])] ([],[]) λ_ _ _ _ _=>by delta j6L j3U jcm ja3 j27;refine gz j6M λ_ b=>gz j8C λ_ d=>gz j0b λ_ f=> ?_;rewrite [<-b,<-d,<-f];kernel_rfl
def jaM (l:List qP) (b:qB) (d:List qV) (g:(List (Int×qW×Bool))->Res):Res:=j6J l λr=>jeQ l b d r (nI (List.length r)) Z1c [] false 0 [] λf=>g f
def jgd:Sig Unit:=sg [.borrow y20 false,.borrow .str false,.borrow y3 false] [false] [(y20,none),(.str,none),(y3,none)] [] λb f k=>jaM b.1 b.2.1 b.2.2.1 (λd=>k [w1 y26 d .O] [] [])
theorem jqa:SO 59 jgd:=fK (np:=0) jfW [ja3,jdz] (oI 250 1 @jop oN) false Tryz.func59 λ_ _ _ _=>by delta jaM jck jdz jeQ;refine gz j6J λ_ b=>gz j6L λ_ d=> ?_;rewrite [<-b,<-d];kernel_rfl
def jb6 (place:Int) (b:qF×List qR) (d:List qD) (f:(List qD)->Res):Res:=bif lim ((List.length d)+1) then f (d++[b]) else none
def jcj:Sig Unit:=sg [.borrow tI false,.borrow y33 true,.ptr y34] [] [(tI,none),(y33,none)] [(y34,[.PS])] λb d k=>jb6 b.1 b.2.1 d.1.2 (λf=>k [] [] [⟨y34,d.1.1,f,[.PS]⟩])
theorem jmt:SO 181 jcj:=fK (np:=0) Zas [] oN false Tryz.func181 λ_ _ _ _=>by kernel_rfl
theorem j7p:FS [(138,j6s),(181,jcj),(222,j8r),(223,j1F),(224,j6u),(225,j1g)]:=(Za6 jgn (Za6 jmt (Za6 jit (Za6 jaD (Za6 jgp (Za6 j98 Zas))))))
def j3O (l:List qP) (i:Int) (d:qF×List qR) (r:Int×Int×qS) (b:Int->qD->Res):Res:=bif Z8e 0 i (List.length l) then Z87 (j1N (sub l 0 i) r.2.1 λn=>Z87 (j0R d n λg h w=>Z87 (Z87 (b h g) (Z87 (b h g) (b h g))) (Z87 (Z87 (b h g) (Z87 (b h g) (b h g))) (Z87 (Z87 (b h g) (b h g)) (Z87 (Z87 (b h g) (b h g)) (b h g))))) (j0R d n λj k y=>Z87 (Z87 (b k j) (b k j)) (Z87 (Z87 (b k j) (b k j)) (b k j)))) (j1N (sub l 0 i) r.2.1 λq=>j0R d q λm f p=>Z87 (Z87 (b f m) (b f m)) (Z87 (Z87 (b f m) (b f m)) (b f m))) else none
def j32:Z1d Unit:=Nd 84 85 [.R 1 y20 .S,.t 2 (.clos 181 [⟨true,84,[]⟩]),.t 3 (pB 3),.t 6 (pB 6),.R 8 y21 .O,.R 9 y21 .O,.I 10,.t 11 (pB 11),.R 17 y20 .S,.I 18,.I 19] [(3,y33,[.S,.S]),(6,y33,[.O,.O]),(11,y19,[.S,.S,.S,.S]),(84,y34,[.PS])] λd b f=>j3O d.1 d.2.2.2.1 b.1.2 b.2.2.1.2 (λcode next=>f .normal [(1,v1 y20 d.1 .S),(2,.clos 181 [⟨true,84,[]⟩]),(3,pB 3),(6,pB 6),(8,v1 y21 d.2.1 .O),(9,v1 y21 d.2.2.1 .O),(10,vI d.2.2.2.1),(11,pB 11),(12,pB 12),(13,vI code),(17,v1 y20 d.2.2.2.2.1 .S),(18,vI d.2.2.2.2.2.1),(19,vI d.2.2.2.2.2.2.1)] [(3,⟨y33,b.1.1,b.1.2,[.S,.S]⟩),(6,⟨y33,b.2.1.1,b.2.1.2,[.O,.O]⟩),(11,⟨y19,b.2.2.1.1,b.2.2.1.2,[.S,.S,.S,.S]⟩),(12,⟨y33,false,next,[.O,.O]⟩),(84,⟨y34,b.2.2.2.1.1,b.2.2.2.1.2,[.PS]⟩)])
theorem jlK:CN 0 478452 Tryz.f170 j32:=nK j7p [] oN ([1,2,3,6,8,9,10,11,12,13,17,18,19],[3,6,11,12,84]) [] ([],[]) λ_ _ _=>by delta j3O j6u j6s;refine gz j1N λ_ b=>gz j0R λ_ d=> ?_;rewrite [<-b,<-d];kernel_rfl
def j6i (l:List qP) (i:Int) (f:Bool) (d:qF×List qR) (r:Int×Int×qS) (g:List qD) (h:qD->(List qD)->Res) (j:Unit->Res):Res:=bif f then j3O l i d r λcode next=>bif (code != 0) then j () else jb6 (Z9K (i+1)) d g λb=>h next b else h d g
def j5B:Z1d Unit:=λσ k=>rdN σ 84<|rd1 σ 1 y20 .S λl=>rdT σ 2 (.clos 181 [⟨true,84,[]⟩])<|rdT σ 3 (pB 3)<|rdT σ 6 (pB 6)<|rd1 σ 8 y21 .O λb=>rd1 σ 9 y21 .O λf=>rdI σ 10 λi=>rdT σ 11 (pB 11)<|rd1 σ 17 y20 .S λh=>rdI σ 18 λj=>rdI σ 19 λm=>rdO σ 54 λn=>rdB σ 3 y33 [.S,.S] λa d=>rdB σ 6 y33 [.O,.O] λp A=>rdB σ 11 y19 [.S,.S,.S,.S] λy r=>rdB σ 84 y34 [.PS] λq w=>j6i l i n d r w (λz g=>k .normal (mkS 84 85 [(1,v1 y20 l .S),(2,.clos 181 [⟨true,84,[]⟩]),(3,pB 3),(6,pB 6),(8,v1 y21 b .O),(9,v1 y21 f .O),(11,pB 11),(17,v1 y20 h .S),(18,vI j),(19,vI m)] [(3,⟨y33,a,z,[.S,.S]⟩),(6,⟨y33,p,A,[.O,.O]⟩),(11,⟨y19,y,r,[.S,.S,.S,.S]⟩),(84,⟨y34,q,g,[.PS]⟩)])) (λ_=>k .ret (mkS 84 85 [(6,pB 6),(7,vB false)] [(6,⟨y33,p,([],[]),[.O,.O]⟩),(84,⟨y34,q,w,[.PS]⟩)]))
theorem jlL:CN 0 119613 Tryz.f170 j5B:=λA=>jlA follows j1y j7p A [j32] (oI 4 0 @jlK oN) ([1,2,3,6,8,9,11,17,18,19],[3,6,11,84]) [] ([6,7],[6,84]) [(0,[],[(3,[.S,.S])])] λσ k _ h=>rN h λL h=>rV h λl F h=>rT h λG h=>rT h λH h=>rT h λI h=>rV h λB J h=>rV h λD K h=>rV h λi g h=>rT h λj h=>rV h λM n h=>rV h λP p h=>rV h λQ q h=>rV h λR w h=>rB h λa d y h=>rB h λT W z h=>rB h λU r b h=>rB h λV C f h=>⟨_,ZaM (m:=85) L (sC F (sC G (sC H (sC I (sC J (sC K (sC g (sC j (sC n (sC p (sC q (sC w sN)))))))))))) (bC y (bC z (bC b (bC f bN)))),.trans (by delta j6i j32 jcj;refine gz j3O λ_ C=>gz jb6 λ_ E=> ?_;rewrite [<-C,<-E];kernel_rfl) h⟩
def j2p (l:List qP) (g:List qP) (k:Int) (f:List Int) (h:List Int) (b:Int) (d:qF×List qR) (i:List qD) (rec:(List Int)->(List Int)->Int->qD->(List qD)->Res) (n:qD->(List qD)->Res) (j:(List qD)->Res):Res:=bif decide (b<k) then bif inb b (List.length g) then j5a (nth (0,0,0,eS,[],[],0,eS,[],[],eS,eS) g b) λr=>bif !r then j i else bif ((nth (0,0,0,eS,[],[],0,eS,[],[],eS,eS) g b).1==1) then j0q h (nth (0,0,0,eS,[],[],0,eS,[],[],eS,eS) g b).2.1 λp=>bif p then j i else bif lim ((List.length h)+1) then bif lim ((List.length f)+1) then rec (f++[(nth (0,0,0,eS,[],[],0,eS,[],[],eS,eS) g b).2.1]) (h++[(nth (0,0,0,eS,[],[],0,eS,[],[],eS,eS) g b).2.1]) (Z9K (b+1)) d i else none else none else j0q f (nth (0,0,0,eS,[],[],0,eS,[],[],eS,eS) g b).2.1 λq=>bif !q then j i else j6i l b ((nth (0,0,0,eS,[],[],0,eS,[],[],eS,eS) g b).1==3) d (nth (0,0,0,eS,[],[],0,eS,[],[],eS,eS) g b) i (λm e=>bif ((nth (0,0,0,eS,[],[],0,eS,[],[],eS,eS) g b).1 != 2) then j0J f (nth (0,0,0,eS,[],[],0,eS,[],[],eS,eS) g b) λw y=>rec w h (Z9K (b+1)) m e else rec f h (Z9K (b+1)) m e) (λ_=>j i) else none else n d i
def j76 (l:List qP) (g:List qP) (h:Int):((List Int)×(List Int)×Int×qD×(List qD))->((List Int)×(List Int)×Int×qD×(List qD)->Res)->((qD->(List qD)->Res)×((List qD)->Res))->Res:=λv rec q=>j2p l g h v.1 v.2.1 v.2.2.1 v.2.2.2.1 v.2.2.2.2 (λb f i d j=>rec (b,f,i,d,j)) q.1 q.2
def jgL (l:List qP) (g:List qP) (h:Int) (n:Nat) (b:List Int) (f:List Int) (i:Int) (d:qF×List qR) (j:List qD) (k:qD->(List qD)->Res) (m:(List qD)->Res):Res:=Z1f (j76 l g h) n (b,f,i,d,j) (k,m)
def jbG:Z1d Unit:=NdL 84 85 [.R 1 y20 .S,.t 2 (.clos 181 [⟨true,84,[]⟩]),.t 3 (pB 3),.t 6 (pB 6),.R 8 y21 .O,.R 9 y21 .O,.R 17 y20 .S,.I 18,.I 19] [(3,y33,[.S,.S]),(6,y33,[.O,.O]),(84,y34,[.PS])] (λd b=>(d.2.1,d.2.2.1,d.2.2.2.2.2.1,b.1.2,b.2.2.1.2)) (λd v=>(d.1,v.1,v.2.1,d.2.2.2.1,d.2.2.2.2.1,v.2.2.1,())) (λb v=>((b.1.1,v.2.2.2.1),(b.2.1.1,b.2.1.2),(b.2.2.1.1,v.2.2.2.2),())) (λd b=>j76 d.1 d.2.2.2.1 d.2.2.2.2.1) λd b h=>((λi f=>h (.exit 0) [(3,pB 3),(6,pB 6)] [(3,⟨y33,b.1.1,i,[.S,.S]⟩),(6,⟨y33,b.2.1.1,b.2.1.2,[.O,.O]⟩),(84,⟨y34,b.2.2.1.1,f,[.PS]⟩)]),(λg=>h .ret [(6,pB 6),(7,vB false)] [(6,⟨y33,b.2.1.1,([],[]),[.O,.O]⟩),(84,⟨y34,b.2.2.1.1,g,[.PS]⟩)]))
theorem jlJ:CN 0 58 Tryz.f170 jbG:=lK j7p [j32,j5B] (oI 1853 1 @jlL oN) ([],[]) [(0,[3,6],[3,6,84])] ([6,7],[6,84]) λ_ _ _ _ _=>by delta j76 j2p j8r j1F j5B j1g;refine gz j5a λ_ b=>gz j0q λ_ d=>gz j6i λ_ f=>gz j0J λ_ g=> ?_;rewrite [<-b,<-d,<-f,<-g];kernel_rfl
def jca (l:List qP) (d:qF×List qR) (g:List qD) (b:Bool->qD->(List qD)->Res):Res:=jgL l l (nI (List.length l)) Z1c [] [] 0 d g (λf e=>b true f e) (λh=>b false ([],[]) h)
def jfE:Z1d Unit:=λσ k=>rdN σ 84<|rd1 σ 1 y20 .S λl=>rdT σ 2 (.clos 181 [⟨true,84,[]⟩])<|rdT σ 3 (pB 3)<|rdT σ 6 (pB 6)<|rdB σ 3 y33 [.S,.S] λa d=>rdB σ 6 y33 [.O,.O] λg m=>rdB σ 84 y34 [.PS] λh i=>jca l d i (λj f b=>k .ret (mkS 84 85 [(6,pB 6),(7,vB j)] [(6,⟨y33,g,f,[.S,.S]⟩),(84,⟨y34,h,b,[.PS]⟩)]))
theorem jlM:CN 0 3 Tryz.f170 jfE:=λi=>jlA follows j1y j7p i [j32,j5B,jbG] (oI 26 2 @jlJ oN) ([],[]) [] ([6,7],[6,84]) [(1,[],[(6,[.S,.S])])] λσ k _ h=>rN h λr h=>rV h λl j h=>rT h λn h=>rT h λp h=>rT h λq h=>rB h λa d f h=>rB h λw A g h=>rB h λy z b h=>⟨_,ZaM (m:=85) r (sC j (sC n (sC p (sC q sN)))) (bC f (bC g (bC b bN))),.trans (by kernel_rfl) h⟩
def jcJ (d:qF×List qR) (l:List qP) (b:List qD) (f:qD->Bool->(List qD)->Res):Res:=jca l d b λt g e=>f g t e
def jov:Sig Unit:=sg [.borrow y33 true,.borrow y20 false,.clos 181 [y34]] [true,false] [(y33,none),(y20,none)] [(y34,[.PS])] λb d k=>jcJ b.1 b.2.1 d.1.2 (λf g h=>k [⟨y33,true,f,[.S,.S]⟩,wB g] [] [⟨y34,d.1.1,h,[.PS]⟩])
theorem jhU:SO 170 jov:=fK (np:=0) j7p [j32,j5B,jbG,jfE] (oI 3 3 @jlM oN) false Tryz.func170 λ_ _ _ _=>by kernel_rfl
def jc9 (l:List qP) (d:List qD) (f:(List qD)->Res):Res:=jcJ ([],[]) l d λr g b=>bif lim ((List.length b)+1) then bif Z8e 1 (nI (List.length (b++[r]))) (List.length (b++[r])) then f (sub (b++[r]) 1 (nI (List.length (b++[r])))) else none else none
def jfB:Z1d Unit:=λσ k=>rdN σ 20<|rd1 σ 0 y20 .S λl=>rdT σ 3 (pB 3)<|rdB σ 3 y34 [.PS] λa b=>jc9 l b (λd=>k .ret (mkS 20 20 [(2,v1 y34 d .N)] []))
def jfD:Z1d Unit:=λσ k=>jfB (σ.wk [] [(3,[.PS])]) k
theorem jlI:CN 0 7 Tryz.f127 jfD:=λd=>ZaJ [] [(3,[.PS])] (jlz follows j1y (Za6 jhU Zas) d [] oN ([],[]) [] ([2],[]) (y:=jfB) λσ k _ h=>rN h λi h=>rV h λl f h=>rT h λg h=>rB h λa j b h=>⟨_,ZaM (m:=20) i (sC f (sC g sN)) (bC b bN),.trans (by kernel_rfl) h⟩)
def j9x (l:List qP) (b:(List qD)->Res):Res:=jc9 l [] λt=>b t
def jdf:Sig Unit:=sg [.borrow y20 false] [false] [(y20,none)] [] λd f k=>j9x d.1 (λb=>k [w1 y34 b .S] [] [])
theorem jnM:SO 127 jdf:=fK (np:=0) (Za6 jhU Zas) [jfD] (oI 7 0 @jlI oN) false Tryz.func127 λ_ _ _ _=>by kernel_rfl
def j8S (d:qF×List qR) (b:qB) (g:List qV) (f:qW->Bool->Res):Res:=j0j d.1 b λr=>bif decide (r<0) then f [] false else bif inb r (List.length d.1) then bif inb r (List.length d.2) then j0O (nth (eS,[],[]) d.1 r) (nth [] d.2 r) g λh=>bif decide (h<0) then f [] false else bif inb r (List.length d.2) then bif inb h (List.length (nth [] d.2 r)) then j0y (nth [] (nth [] d.2 r) h) λi=>f i true else none else none else none else none
def jeG:Sig Unit:=sg [.borrow y33 true,.borrow .str false,.borrow y3 false] [true,false] [(y33,none),(.str,none),(y3,none)] [] λb g k=>j8S b.1 b.2.1 b.2.2.1 (λd f=>k [⟨y3,true,d,[.O]⟩,wB f] [] [])
theorem joK:SO 117 jeG:=fK (np:=0) (Za6 j7q (Za6 jaR (Za6 j51 Zas))) [] oN false Tryz.func117 λ_ _ _ _=>by delta j8S j0T j4r j5l;refine gz j0j λ_ b=>gz j0O λ_ d=>gz j0y λ_ f=> ?_;rewrite [<-b,<-d,<-f];kernel_rfl
theorem jfU:FS [(104,jbl),(109,jcf),(117,jeG),(127,jdf),(128,j2K)]:=(Za6 je5 (Za6 jmo (Za6 joK (Za6 jnM (Za6 j8e Zas)))))
def j8i (d:Bool) (b:Int×qW×Bool) (r:List qV) (f:Bool->Res):Res:=bif !(d==b.2.2) then f true else j16 r b.2.1 λg=>f (!g)
def ja0:Z1d Unit:=Nd 63 63 [.S 1,.R 2 y3 .S,.R 7 y26 .O,.R 8 y21 .O,.t 9 (pB 9),.I 10,.t 12 (pB 12),.B 13,.R 23 y34 .S,.I 24,.I 25] [(9,y25,[.N]),(12,y3,[.O])] λb d g=>j8i b.2.2.2.2.2.1 d.1.2 d.2.1.2 (λf=>g .normal [(1,vS b.1),(2,v1 y3 b.2.1 .S),(7,v1 y26 b.2.2.1 .O),(8,v1 y21 b.2.2.2.1 .O),(9,pB 9),(10,vI b.2.2.2.2.1),(12,pB 12),(13,vB b.2.2.2.2.2.1),(23,v1 y34 b.2.2.2.2.2.2.1 .S),(24,vI b.2.2.2.2.2.2.2.1),(25,vI b.2.2.2.2.2.2.2.2.1),(49,vB f)] [(9,⟨y25,d.1.1,d.1.2,[.N]⟩),(12,⟨y3,d.2.1.1,d.2.1.2,[.O]⟩)])
theorem joc:CN 0 129638 Tryz.f60 ja0:=nK jfU [] oN ([1,2,7,8,9,10,12,13,23,24,25,49],[9,12]) [] ([],[]) λ_ _ _=>by kernel_rfl
def j3L (g:qB) (j:List qV) (b:List Int) (h:List qD) (l:Int) (f:List (Int×qW×Bool)) (d:Int) (i:Int×qW×Bool) (rec:(List (Int×qW×Bool))->Int->(Int×qW×Bool)->Res) (m:(List (Int×qW×Bool))->Res):Res:=bif decide (d<l) then bif inb d (List.length h) then j8S (nth ([],[]) h d) g j λr k=>j8i k i r λt=>bif t then bif inb d (List.length b) then bif lim ((List.length f)+1) then rec (f++[(nth 0 b d,r,k)]) (Z9K (d+1)) (nth 0 b d,r,k) else none else none else rec f (Z9K (d+1)) i else none else m f
def j6c (d:qB) (f:List qV) (b:List Int) (h:List qD) (i:Int):((List (Int×qW×Bool))×Int×(Int×qW×Bool))->((List (Int×qW×Bool))×Int×(Int×qW×Bool)->Res)->(((List (Int×qW×Bool))->Res))->Res:=λv rec q=>j3L d f b h i v.1 v.2.1 v.2.2 (λg j k=>rec (g,j,k)) q
def jb1 (d:qB) (f:List qV) (b:List Int) (h:List qD) (i:Int) (n:Nat) (g:List (Int×qW×Bool)) (j:Int) (k:Int×qW×Bool) (l:(List (Int×qW×Bool))->Res):Res:=Z1f (j6c d f b h i) n (g,j,k) (l)
def jdp:Z1d Unit:=λσ k=>rdN σ 63<|rdS σ 1 λd=>rd1 σ 2 y3 .S λg=>rd1 σ 7 y26 .O λh=>rd1 σ 8 y21 .O λb=>rdT σ 9 (pB 9)<|rd1 σ 23 y34 .S λi=>rdI σ 24 λj=>rdI σ 25 λl=>rdB σ 9 y25 [.N] λa m=>jb1 d g b i j Z1c h l m (λf=>k (.exit 0) (mkS 63 63 [(7,v1 y26 f .O)] []))
def jdt:Z1d Unit:=λσ k=>jdp (σ.wk [] [(9,[.N])]) k
theorem job:CN 0 506 Tryz.f60 jdt:=λr=>ZaJ [] [(9,[.N])] (jly follows j1y jfU r [ja0] (oI 230 0 @joc oN) [1,2,7,8,9,23,24,25] [9] ([],[]) [(0,[7],[])] ([],[]) (y:=jdp) λσ k _ h=>rN h λI h=>rV h λd D h=>rV h λf E h=>rV h λw F h=>rV h λb G h=>rT h λH h=>rV h λi l h=>rV h λj n h=>rV h λz p h=>rB h λa A q h=>⟨_,ZaM (m:=63) I (sC D (sC E (sC F (sC G (sC H (sC l (sC n (sC p sN)))))))) (bC q bN),.trans (Z9u (λv:(List (Int×qW×Bool))×Int×(Int×qW×Bool)=>(mkS 63 63 [(1,vS d),(2,v1 y3 f .S),(7,v1 y26 v.1 .O),(8,v1 y21 b .O),(9,pB 9),(23,v1 y34 i .S),(24,vI j),(25,vI v.2.1)] [(9,⟨y25,a,v.2.2,[.N]⟩)])) (j6c d f b i j) (λ(k:Z83 Unit)=>(((λg=>k (.exit 0) (mkS 63 63 [(7,v1 y26 g .O)] []))):((List (Int×qW×Bool))->Res))) (λv rec k=>by delta j6c j3L jeG ja0;refine gz j8S λ_ B=>gz j8i λ_ C=> ?_;rewrite [<-B,<-C];kernel_rfl) Z1c (w,z,A) k) h⟩)
def j6X (l:List qP) (b:qB) (d:List qV) (g:(List (Int×qW×Bool))->Res):Res:=j73 l λr=>bif !r then g [] else j6a l λi=>j9x l λh=>jb1 b d i h (nI (List.length h)) Z1c [] 0 (0,[],false) λf=>g f
def jcM:Sig Unit:=sg [.borrow y20 false,.borrow .str false,.borrow y3 false] [false] [(y20,none),(.str,none),(y3,none)] [] λb f k=>j6X b.1 b.2.1 b.2.2.1 (λd=>k [w1 y26 d .O] [] [])
theorem jq4:SO 60 jcM:=fK (np:=0) jfU [ja0,jdt] (oI 506 1 @job oN) false Tryz.func60 λ_ _ _ _=>by delta j6X jbl jcf jdf jdt;delta jdp jb1;refine gz j73 λ_ b=>gz j6a λ_ d=>gz j9x λ_ f=>gz j6c λ_ g=> ?_;rewrite [<-b,<-d,<-f,<-g];kernel_rfl
end
end Go.PI.G
namespace Go.PI.G
noncomputable section
open Go Go.PI Go.Proofs
open Go.Code (pl pr)
def jba (a:Int×Int×qB) (left:Int) (b:Int->Res):Res:=bif decide ((Z9K (left-(nI (ByteArray.size a.2.2))))<0) then b (-1) else b (Z9K (left-(nI (ByteArray.size a.2.2))))
def jpF:Sig Unit:=sg [.look y2 true,.look tI false] [false] [(y2,none),(tI,none)] [] λb f k=>jba b.1 b.2.1 (λd=>k [wI d] [] [])
theorem je9:SO 105 jpF:=fK (np:=0) Zas [] oN false Tryz.func105 λ_ _ _ _=>by kernel_rfl
def jbc (a:Int×Int×qB) (b:qV->Res):Res:=b (a.1,a.2.1,a.2.2)
def jpI:Sig Unit:=sg [.look y2 true] [true] [(y2,none)] [] λd f k=>jbc d.1 (λb=>k [⟨y2,true,b,[]⟩] [] [])
theorem jea:SO 106 jpI:=fK (np:=0) Zas [] oN false Tryz.func106 λ_ _ _ _=>by kernel_rfl
def jb8 (a:Int×Int×qB) (b:Int×Int×qB) (d:Bool->Res):Res:=bif (a.1 != b.1) then d false else bif (a.2.1 != b.2.1) then d false else bif sNe a.2.2 b.2.2 then d false else d true
def jpC:Sig Unit:=sg [.look y2 true,.look y2 true] [false] [(y2,none),(y2,none)] [] λb f k=>jb8 b.1 b.2.1 (λd=>k [wB d] [] [])
theorem je8:SO 107 jpC:=fK (np:=0) Zas [] oN false Tryz.func107 λ_ _ _ _=>by kernel_rfl
end
end Go.PI.G
namespace Go.PI.G
noncomputable section
open Go Go.PI Go.Proofs
open Go.Code (pl pr)
def jdR (a:qB×Int×Bool×Bool×Int×Int×qB) (left:Int) (b:Int->Res):Res:=bif decide ((Z9K (left-(nI (ByteArray.size a.1))))<0) then b (-1) else jba a.2.2.2.2 (Z9K (left-(nI (ByteArray.size a.1)))) λr=>bif decide (r<0) then b (-1) else b r
def jpD:Sig Unit:=sg [.look y7 true,.look tI false] [false] [(y7,none),(tI,none)] [] λb f k=>jdR b.1 b.2.1 (λd=>k [wI d] [] [])
theorem jiz:SO 285 jpD:=fK (np:=0) (Za6 je9 Zas) [] oN false Tryz.func285 λ_ _ _ _=>by kernel_rfl
def jdT (a:qB×Int×Bool×Bool×Int×Int×qB) (b:qC->Res):Res:=jbc a.2.2.2.2 λr=>b (a.1,a.2.1,a.2.2.1,a.2.2.2.1,r)
def jpG:Sig Unit:=sg [.look y7 true] [true] [(y7,none)] [] λd f k=>jdT d.1 (λb=>k [⟨y7,true,b,[]⟩] [] [])
theorem jiB:SO 292 jpG:=fK (np:=0) (Za6 jea Zas) [] oN false Tryz.func292 λ_ _ _ _=>by kernel_rfl
def jdP (a:qB×Int×Bool×Bool×Int×Int×qB) (b:qB×Int×Bool×Bool×Int×Int×qB) (d:Bool->Res):Res:=bif sNe a.1 b.1 then d false else bif (a.2.1 != b.2.1) then d false else bif !(a.2.2.1==b.2.2.1) then d false else bif !(a.2.2.2.1==b.2.2.2.1) then d false else jb8 a.2.2.2.2 b.2.2.2.2 λr=>bif !r then d false else d true
def jpA:Sig Unit:=sg [.look y7 true,.look y7 true] [false] [(y7,none),(y7,none)] [] λb f k=>jdP b.1 b.2.1 (λd=>k [wB d] [] [])
theorem jiv:SO 302 jpA:=fK (np:=0) (Za6 je8 Zas) [] oN false Tryz.func302 λ_ _ _ _=>by kernel_rfl
end
end Go.PI.G
namespace Go.PI.G
noncomputable section
open Go Go.PI Go.Proofs
open Go.Code (pl pr)
def j2H (d:Int) (b:qB) (rec:Int->qB->Res) (f:qB->Res):Res:=bif decide (d>0) then bif lim ((ByteArray.size (Z3B [wu8 (Z9K (48+(Int.tmod d 10)))]))+(ByteArray.size b)) then rec (Z9K (Int.tdiv d 10)) ((Z3B [wu8 (Z9K (48+(Int.tmod d 10)))])++b) else none else f b
def j5j:(Int×qB)->(Int×qB->Res)->((qB->Res))->Res:=λv rec q=>j2H v.1 v.2 (λd b=>rec (d,b)) q
def jew (n:Nat) (f:Int) (b:qB) (d:qB->Res):Res:=Z1f (j5j) n (f,b) (d)
def jdK:Z1d Unit:=NdL 20 20 [.I 0,.S 3] [] (λd f=>(d.1,d.2.1)) (λd v=>(v.1,v.2,())) (λf v=>()) (λd f=>j5j) λd f g=>((λb=>g (.exit 0) [(3,vS b)] []))
theorem jjK:CN 0 60 Tryz.f110 jdK:=lK Zas [] oN ([],[]) [(0,[3],[])] ([],[]) λ_ _ _ _ _=>by kernel_rfl
def j0o (f:Int) (d:qB->Res):Res:=bif decide (f<=0) then d jtR else jew Z1c f eS λb=>bif lim (1+(ByteArray.size b)) then d (z_m++b) else none
def j82:Sig Unit:=sg [.look tI false] [false] [(tI,none)] [] λd f k=>j0o d.1 (λb=>k [wS b] [] [])
theorem j0n:SO 110 j82:=fK (np:=0) Zas [jdK] (oI 60 0 @jjK oN) false Tryz.func110 λ_ _ _ _=>by kernel_rfl
end
end Go.PI.G
namespace Go.PI.G
noncomputable section
open Go Go.PI Go.Proofs
open Go.Code (pl pr)
def j4k (a:List qC) (left:Int) (i:Int) (rec:Int->Int->Res) (b:Int->Res) (d:Unit->Res):Res:=bif decide (i<(nI (List.length a))) then bif inb i (List.length a) then jdR (nth (eS,0,false,false,0,0,eS) a i) left λr=>bif decide (r<0) then d () else rec r (Z9K (i+1)) else none else b left
def jey (a:List qC):(Int×Int)->(Int×Int->Res)->((Int->Res)×(Unit->Res))->Res:=λv rec q=>j4k a v.1 v.2 (λleft i=>rec (left,i)) q.1 q.2
def jcb (a:List qC) (n:Nat) (left:Int) (i:Int) (b:Int->Res) (d:Unit->Res):Res:=Z1f (jey a) n (left,i) (b,d)
def jfI:Z1d Unit:=NdL 27 27 [.R 0 y8 .S,.I 1,.I 5] [] (λd f=>(d.2.1,d.2.2.1)) (λd v=>(d.1,v.1,v.2,())) (λf v=>()) (λd f=>jey d.1) λd f g=>((λb=>g (.exit 0) [(1,vI b)] []),(λ_=>g .ret [(4,vI (-1))] []))
theorem jlQ:CN 0 122 Tryz.f241 jfI:=lK (Za6 jiz Zas) [] oN ([],[]) [(0,[1],[])] ([4],[]) λ_ _ _ _ _=>by kernel_rfl
def j9B (a:List qC) (left:Int) (d:Int->Res):Res:=bif decide ((Z9K (left-(nI (List.length a))))<0) then d (-1) else jcb a Z1c (Z9K (left-(nI (List.length a)))) 0 (λb=>d b) (λ_=>d (-1))
def ji5:Sig Unit:=sg [.look y8 false,.look tI false] [false] [(y8,none),(tI,none)] [] λb f k=>j9B b.1 b.2.1 (λd=>k [wI d] [] [])
theorem jnQ:SO 241 ji5:=fK (np:=0) (Za6 jiz Zas) [jfI] (oI 122 0 @jlQ oN) false Tryz.func241 λ_ _ _ _=>by kernel_rfl
def j4n (a:List qC) (b:List qC) (i:Int) (rec:qE->Int->Res) (d:qE->Res):Res:=bif decide (i<(nI (List.length a))) then bif inb i (List.length a) then jdT (nth (eS,0,false,false,0,0,eS) a i) λr=>bif inb i (List.length b) then rec (upd b i r) (Z9K (i+1)) else none else none else d b
def jac (a:List qC):(qE×Int)->(qE×Int->Res)->((qE->Res))->Res:=λv rec q=>j4n a v.1 v.2 (λb i=>rec (b,i)) q
def jmH (a:List qC) (n:Nat) (b:List qC) (i:Int) (d:qE->Res):Res:=Z1f (jac a) n (b,i) (d)
def jfL:Z1d Unit:=NdL 23 23 [.R 0 y8 .S,.R 3 y8 .O,.I 4] [] (λb f=>(b.2.1,b.2.2.1)) (λb v=>(b.1,v.1,v.2,())) (λf v=>()) (λb f=>jac b.1) λb f g=>((λd=>g (.exit 0) [(3,v1 y8 d .O)] []))
theorem jlT:CN 0 58 Tryz.f249 jfL:=lK (Za6 jiB Zas) [] oN ([],[]) [(0,[3],[])] ([],[]) λ_ _ _ _ _=>by kernel_rfl
def j9E (a:List qC) (d:qE->Res):Res:=bif Z9I (nI (List.length a)) (nI (List.length a)) then jmH a Z1c (Z9h (nI (List.length a)) (eS,0,false,false,0,0,eS)) 0 λb=>d b else none
def ji6:Sig Unit:=sg [.borrow y8 false] [false] [(y8,none)] [] λd f k=>j9E d.1 (λb=>k [w1 y8 b .O] [] [])
theorem jnT:SO 249 ji6:=fK (np:=0) (Za6 jiB Zas) [jfL] (oI 58 0 @jlT oN) false Tryz.func249 λ_ _ _ _=>by kernel_rfl
def j47 (a:List qC) (b:List qC) (i:Int) (rec:Int->Res) (d:Unit->Res) (f:Unit->Res):Res:=bif decide (i<(nI (List.length a))) then bif inb i (List.length a) then bif inb i (List.length b) then jdP (nth (eS,0,false,false,0,0,eS) a i) (nth (eS,0,false,false,0,0,eS) b i) λr=>bif !r then f () else rec (Z9K (i+1)) else none else none else d ()
def jeq (a:List qC) (b:List qC):Int->(Int->Res)->((Unit->Res)×(Unit->Res))->Res:=λv rec q=>j47 a b v (λi=>rec (i)) q.1 q.2
def jgN (a:List qC) (b:List qC) (n:Nat) (i:Int) (d:Unit->Res) (f:Unit->Res):Res:=Z1f (jeq a b) n (i) (d,f)
def jfF:Z1d Unit:=NdL 27 27 [.R 0 y8 .S,.R 1 y8 .S,.I 5] [] (λb d=>(b.2.2.1)) (λb v=>(b.1,b.2.1,v,())) (λd v=>()) (λb d=>jeq b.1 b.2.1) λb d f=>((λ_=>f (.exit 0) [] []),(λ_=>f .ret [(4,vB false)] []))
theorem jlN:CN 0 58 Tryz.f258 jfF:=lK (Za6 jiv Zas) [] oN ([],[]) [(0,[],[])] ([4],[]) λ_ _ _ _ _=>by kernel_rfl
def j9y (a:List qC) (b:List qC) (d:Bool->Res):Res:=bif ((nI (List.length a)) != (nI (List.length b))) then d false else jgN a b Z1c 0 (λ_=>d true) (λ_=>d false)
def ji4:Sig Unit:=sg [.look y8 false,.look y8 false] [false] [(y8,none),(y8,none)] [] λb f k=>j9y b.1 b.2.1 (λd=>k [wB d] [] [])
theorem jnN:SO 258 ji4:=fK (np:=0) (Za6 jiv Zas) [jfF] (oI 58 0 @jlN oN) false Tryz.func258 λ_ _ _ _=>by kernel_rfl
def j4a (a:List qC) (d:Int) (i:Int) (b:qE->Res):Res:=bif inb i (List.length a) then b (upd a i ((nth (eS,0,false,false,0,0,eS) a i).1,(nth (eS,0,false,false,0,0,eS) a i).2.1,((Int.tmod d 3)==0),(nth (eS,0,false,false,0,0,eS) a i).2.2.2)) else none
def j22:Z1d Unit:=Nd 71 71 [.R 0 y8 .O,.I 1,.I 5] [] λb g f=>j4a b.1 b.2.1 b.2.2.1 (λd=>f .normal [(0,v1 y8 d .O),(1,vI b.2.1),(5,vI b.2.2.1)] [])
theorem jjz:CN 1 13470 Tryz.f111 j22:=nK (Za6 j0n Zas) [] oN ([0,1,5],[]) [] ([],[]) λ_ _ _=>by kernel_rfl
def j4b (a:List qC) (d:Int) (i:Int) (b:qE->Res):Res:=bif inb i (List.length a) then b (upd a i ((nth (eS,0,false,false,0,0,eS) a i).1,(nth (eS,0,false,false,0,0,eS) a i).2.1,(nth (eS,0,false,false,0,0,eS) a i).2.2.1,(nth (eS,0,false,false,0,0,eS) a i).2.2.2.1,d,(nth (eS,0,false,false,0,0,eS) a i).2.2.2.2.2)) else none
def j3y:Z1d Unit:=Nd 71 71 [.R 0 y8 .O,.I 1,.I 5] [] λb g f=>j4b b.1 b.2.1 b.2.2.1 (λd=>f .normal [(0,v1 y8 d .O),(1,vI b.2.1),(5,vI b.2.2.1)] [])
theorem jjA:CN 1 215550 Tryz.f111 j3y:=nK (Za6 j0n Zas) [j22] oN ([0,1,5],[]) [] ([],[]) λ_ _ _=>by kernel_rfl
def j4c (a:List qC) (d:Int) (i:Int) (b:qE->Res):Res:=j0o d λr=>bif inb i (List.length a) then b (upd a i ((nth (eS,0,false,false,0,0,eS) a i).1,(nth (eS,0,false,false,0,0,eS) a i).2.1,(nth (eS,0,false,false,0,0,eS) a i).2.2.1,(nth (eS,0,false,false,0,0,eS) a i).2.2.2.1,(nth (eS,0,false,false,0,0,eS) a i).2.2.2.2.1,(nth (eS,0,false,false,0,0,eS) a i).2.2.2.2.2.1,r)) else none
def j63:Z1d Unit:=Nd 71 71 [.R 0 y8 .O,.I 1,.I 5] [] λb g f=>j4c b.1 b.2.1 b.2.2.1 (λd=>f .normal [(0,v1 y8 d .O),(1,vI b.2.1),(5,vI b.2.2.1)] [])
theorem jjB:CN 1 3448830 Tryz.f111 j63:=nK (Za6 j0n Zas) [j22,j3y] oN ([0,1,5],[]) [] ([],[]) λ_ _ _=>by kernel_rfl
def j1C (a:List qC) (b:Int) (i:Int) (rec:qE->Int->Int->Res) (h:qE->Int->Res):Res:=bif decide (i<(nI (List.length a))) then j0o b λr=>bif inb i (List.length a) then bif inb i (List.length (upd a i (r,(nth (eS,0,false,false,0,0,eS) a i).2))) then j4a (upd (upd a i (r,(nth (eS,0,false,false,0,0,eS) a i).2)) i ((nth (eS,0,false,false,0,0,eS) (upd a i (r,(nth (eS,0,false,false,0,0,eS) a i).2)) i).1,Z9K (b+1),(nth (eS,0,false,false,0,0,eS) (upd a i (r,(nth (eS,0,false,false,0,0,eS) a i).2)) i).2.2)) (Z9K ((Z9K (b+1))+1)) i λf=>bif inb i (List.length f) then j4b (upd f i ((nth (eS,0,false,false,0,0,eS) f i).1,(nth (eS,0,false,false,0,0,eS) f i).2.1,(nth (eS,0,false,false,0,0,eS) f i).2.2.1,((Int.tmod (Z9K ((Z9K ((Z9K (b+1))+1))+1)) 3)==0),(nth (eS,0,false,false,0,0,eS) f i).2.2.2.2)) (Z9K ((Z9K ((Z9K ((Z9K (b+1))+1))+1))+1)) i λd=>bif inb i (List.length d) then j4c (upd d i ((nth (eS,0,false,false,0,0,eS) d i).1,(nth (eS,0,false,false,0,0,eS) d i).2.1,(nth (eS,0,false,false,0,0,eS) d i).2.2.1,(nth (eS,0,false,false,0,0,eS) d i).2.2.2.1,(nth (eS,0,false,false,0,0,eS) d i).2.2.2.2.1,Z9K ((Z9K ((Z9K ((Z9K ((Z9K (b+1))+1))+1))+1))+1),(nth (eS,0,false,false,0,0,eS) d i).2.2.2.2.2.2)) (Z9K ((Z9K ((Z9K ((Z9K ((Z9K ((Z9K (b+1))+1))+1))+1))+1))+1)) i λg=>rec g (Z9K ((Z9K ((Z9K ((Z9K ((Z9K ((Z9K ((Z9K (b+1))+1))+1))+1))+1))+1))+1)) (Z9K (i+1)) else none else none else none else none else h a b
def j5h:(qE×Int×Int)->(qE×Int×Int->Res)->((qE->Int->Res))->Res:=λv rec q=>j1C v.1 v.2.1 v.2.2 (λa b i=>rec (a,b,i)) q
def jeu (n:Nat) (a:List qC) (d:Int) (i:Int) (b:qE->Int->Res):Res:=Z1f (j5h) n (a,d,i) (b)
def jdI:Z1d Unit:=NdL 71 71 [.R 0 y8 .O,.I 1,.I 5] [] (λb f=>(b.1,b.2.1,b.2.2.1)) (λb v=>(v.1,v.2.1,v.2.2,())) (λf v=>()) (λb f=>j5h) λb f h=>((λg d=>h (.exit 0) [(0,v1 y8 g .O),(1,vI d)] []))
theorem jjy:CN 1 26 Tryz.f111 jdI:=lK (Za6 j0n Zas) [j22,j3y,j63] (oI 414 0 @jjz (oI 6654 1 @jjA (oI 106494 2 @jjB oN))) ([],[]) [(0,[0,1],[])] ([],[]) λ_ _ _ _ _=>by delta j5h j1C j82 j22 j3y j63;refine gz j0o λ_ b=>gz j4a λ_ d=>gz j4b λ_ f=>gz j4c λ_ g=> ?_;rewrite [<-b,<-d,<-f,<-g];kernel_rfl
def j9O (a:List qC) (g:Int) (f:Int->qE->Res):Res:=jeu Z1c a g 0 λd b=>f b d
def jfr:Sig Unit:=sg [.inout y8 false,.borrow tI false] [false] [(y8,some [.O]),(tI,none)] [] λb g k=>j9O b.1 b.2.1 (λf d=>k [wI f] [w1 y8 d .O] [])
theorem jlb:SO 111 jfr:=fK (np:=1) (Za6 j0n Zas) [j22,j3y,j63,jdI] (oI 26 3 @jjy oN) false Tryz.func111 λ_ _ _ _=>by kernel_rfl
end
end Go.PI.G
namespace Go.PI.G
noncomputable section
open Go Go.PI Go.Proofs
open Go.Code (pl pr)
def j2h (a:qL) (left:Int) (i:Int) (rec:Int->Int->Res) (b:Int->Res) (d:Unit->Res):Res:=bif decide (i<(nI (List.length a))) then bif inb i (List.length a) then bif decide ((Z9K (left-(nI (ByteArray.size (nth eS a i)))))<0) then d () else rec (Z9K (left-(nI (ByteArray.size (nth eS a i))))) (Z9K (i+1)) else none else b left
def jbT (a:qL):(Int×Int)->(Int×Int->Res)->((Int->Res)×(Unit->Res))->Res:=λv rec q=>j2h a v.1 v.2 (λleft i=>rec (left,i)) q.1 q.2
def j9h (a:qL) (n:Nat) (left:Int) (i:Int) (b:Int->Res) (d:Unit->Res):Res:=Z1f (jbT a) n (left,i) (b,d)
def jd0:Z1d Unit:=NdL 28 28 [.R 0 y0 .S,.I 1,.I 5] [] (λd f=>(d.2.1,d.2.2.1)) (λd v=>(d.1,v.1,v.2,())) (λf v=>()) (λd f=>jbT d.1) λd f g=>((λb=>g (.exit 0) [(1,vI b)] []),(λ_=>g .ret [(4,vI (-1))] []))
theorem jiU:CN 0 122 Tryz.f82 jd0:=lK Zas [] oN ([],[]) [(0,[1],[])] ([4],[]) λ_ _ _ _ _=>by kernel_rfl
def j6n (a:qL) (left:Int) (d:Int->Res):Res:=bif decide ((Z9K (left-(nI (List.length a))))<0) then d (-1) else j9h a Z1c (Z9K (left-(nI (List.length a)))) 0 (λb=>d b) (λ_=>d (-1))
def jeI:Sig Unit:=sg [.look y0 false,.look tI false] [false] [(y0,none),(tI,none)] [] λb f k=>j6n b.1 b.2.1 (λd=>k [wI d] [] [])
theorem jkj:SO 82 jeI:=fK (np:=0) Zas [jd0] (oI 122 0 @jiU oN) false Tryz.func82 λ_ _ _ _=>by kernel_rfl
def j2i (a:qL) (b:qL) (i:Int) (rec:qL->Int->Res) (d:qL->Res):Res:=bif decide (i<(nI (List.length a))) then bif inb i (List.length a) then bif inb i (List.length b) then rec (upd b i (nth eS a i)) (Z9K (i+1)) else none else none else d b
def j7Q (a:qL):(qL×Int)->(qL×Int->Res)->((qL->Res))->Res:=λv rec q=>j2i a v.1 v.2 (λb i=>rec (b,i)) q
def jjt (a:qL) (n:Nat) (b:qL) (i:Int) (d:qL->Res):Res:=Z1f (j7Q a) n (b,i) (d)
def jd1:Z1d Unit:=NdL 22 22 [.R 0 y0 .S,.R 3 y0 .O,.I 4] [] (λb f=>(b.2.1,b.2.2.1)) (λb v=>(b.1,v.1,v.2,())) (λf v=>()) (λb f=>j7Q b.1) λb f g=>((λd=>g (.exit 0) [(3,v1 y0 d .O)] []))
theorem jiV:CN 0 58 Tryz.f88 jd1:=lK Zas [] oN ([],[]) [(0,[3],[])] ([],[]) λ_ _ _ _ _=>by kernel_rfl
def j6o (a:qL) (d:qL->Res):Res:=bif Z9I (nI (List.length a)) (nI (List.length a)) then jjt a Z1c (Z9h (nI (List.length a)) eS) 0 λb=>d b else none
def jeJ:Sig Unit:=sg [.borrow y0 false] [false] [(y0,none)] [] λd f k=>j6o d.1 (λb=>k [w1 y0 b .O] [] [])
theorem jkk:SO 88 jeJ:=fK (np:=0) Zas [jd1] (oI 58 0 @jiV oN) false Tryz.func88 λ_ _ _ _=>by kernel_rfl
def j2e (a:qL) (b:qL) (i:Int) (rec:Int->Res) (d:Unit->Res) (f:Unit->Res):Res:=bif decide (i<(nI (List.length a))) then bif inb i (List.length a) then bif inb i (List.length b) then bif sNe (nth eS a i) (nth eS b i) then f () else rec (Z9K (i+1)) else none else none else d ()
def jbR (a:qL) (b:qL):Int->(Int->Res)->((Unit->Res)×(Unit->Res))->Res:=λv rec q=>j2e a b v (λi=>rec (i)) q.1 q.2
def jdD (a:qL) (b:qL) (n:Nat) (i:Int) (d:Unit->Res) (f:Unit->Res):Res:=Z1f (jbR a b) n (i) (d,f)
def jcX:Z1d Unit:=NdL 26 26 [.R 0 y0 .S,.R 1 y0 .S,.I 5] [] (λb d=>(b.2.2.1)) (λb v=>(b.1,b.2.1,v,())) (λd v=>()) (λb d=>jbR b.1 b.2.1) λb d f=>((λ_=>f (.exit 0) [] []),(λ_=>f .ret [(4,vB false)] []))
theorem jiR:CN 0 58 Tryz.f97 jcX:=lK Zas [] oN ([],[]) [(0,[],[])] ([4],[]) λ_ _ _ _ _=>by kernel_rfl
def j6k (a:qL) (b:qL) (d:Bool->Res):Res:=bif ((nI (List.length a)) != (nI (List.length b))) then d false else jdD a b Z1c 0 (λ_=>d true) (λ_=>d false)
def jeH:Sig Unit:=sg [.look y0 false,.look y0 false] [false] [(y0,none),(y0,none)] [] λb f k=>j6k b.1 b.2.1 (λd=>k [wB d] [] [])
theorem jkg:SO 97 jeH:=fK (np:=0) Zas [jcX] (oI 58 0 @jiR oN) false Tryz.func97 λ_ _ _ _=>by kernel_rfl
def j1E (a:qL) (b:Int) (i:Int) (rec:qL->Int->Int->Res) (d:qL->Int->Res):Res:=bif decide (i<(nI (List.length a))) then j0o b λr=>bif inb i (List.length a) then rec (upd a i r) (Z9K (b+1)) (Z9K (i+1)) else none else d a b
def j6m:(qL×Int×Int)->(qL×Int×Int->Res)->((qL->Int->Res))->Res:=λv rec q=>j1E v.1 v.2.1 v.2.2 (λa b i=>rec (a,b,i)) q
def jbS (n:Nat) (a:qL) (d:Int) (i:Int) (b:qL->Int->Res):Res:=Z1f (j6m) n (a,d,i) (b)
def jbH:Z1d Unit:=NdL 20 20 [.R 0 y0 .O,.I 1,.I 5] [] (λb f=>(b.1,b.2.1,b.2.2.1)) (λb v=>(v.1,v.2.1,v.2.2,())) (λf v=>()) (λb f=>j6m) λb f h=>((λg d=>h (.exit 0) [(0,v1 y0 g .O),(1,vI d)] []))
theorem jht:CN 1 26 Tryz.f98 jbH:=lK (Za6 j0n Zas) [] oN ([],[]) [(0,[0,1],[])] ([],[]) λ_ _ _ _ _=>by kernel_rfl
def j77 (a:qL) (g:Int) (f:Int->qL->Res):Res:=jbS Z1c a g 0 λd b=>f b d
def jcT:Sig Unit:=sg [.inout y0 false,.borrow tI false] [false] [(y0,some [.O]),(tI,none)] [] λb g k=>j77 b.1 b.2.1 (λf d=>k [wI f] [w1 y0 d .O] [])
theorem jiy:SO 98 jcT:=fK (np:=1) (Za6 j0n Zas) [jbH] (oI 26 0 @jht oN) false Tryz.func98 λ_ _ _ _=>by kernel_rfl
end
end Go.PI.G
namespace Go.PI.G
noncomputable section
open Go Go.PI Go.Proofs
open Go.Code (pl pr)
def j8X (a:qG) (left:Int) (b:Int->Res):Res:=bif decide ((Z9K (left-(nI (ByteArray.size a.2.1))))<0) then b (-1) else j9B a.2.2.1 (Z9K (left-(nI (ByteArray.size a.2.1)))) λr=>bif decide (r<0) then b (-1) else j6n a.2.2.2.1 r λd=>bif decide (d<0) then b (-1) else bif decide ((Z9K (d-(nI (ByteArray.size a.2.2.2.2.1))))<0) then b (-1) else bif decide ((Z9K ((Z9K (d-(nI (ByteArray.size a.2.2.2.2.1))))-(nI (ByteArray.size a.2.2.2.2.2))))<0) then b (-1) else b (Z9K ((Z9K (d-(nI (ByteArray.size a.2.2.2.2.1))))-(nI (ByteArray.size a.2.2.2.2.2))))
def jja:Sig Unit:=sg [.look y13 true,.look tI false] [false] [(y13,none),(tI,none)] [] λb f k=>j8X b.1 b.2.1 (λd=>k [wI d] [] [])
theorem joN:SO 185 jja:=fK (np:=0) (Za6 jkj (Za6 jnQ Zas)) [] oN false Tryz.func185 λ_ _ _ _=>by delta j8X ji5 jeI;refine gz j9B λ_ b=>gz j6n λ_ d=> ?_;rewrite [<-b,<-d];kernel_rfl
def j8Y (a:qG) (b:qG->Res):Res:=j9E a.2.2.1 λr=>j6o a.2.2.2.1 λd=>b (a.1,a.2.1,r,d,a.2.2.2.2.1,a.2.2.2.2.2)
def jjc:Sig Unit:=sg [.borrow y13 true] [true] [(y13,none)] [] λd f k=>j8Y d.1 (λb=>k [⟨y13,true,b,[.O,.O]⟩] [] [])
theorem joP:SO 194 jjc:=fK (np:=0) (Za6 jkk (Za6 jnT Zas)) [] oN false Tryz.func194 λ_ _ _ _=>by delta j8Y ji6 jeJ;refine gz j9E λ_ b=>gz j6o λ_ d=> ?_;rewrite [<-b,<-d];kernel_rfl
def j8V (a:qG) (b:qG) (d:Bool->Res):Res:=bif (a.1 != b.1) then d false else bif sNe a.2.1 b.2.1 then d false else j9y a.2.2.1 b.2.2.1 λr=>bif !r then d false else j6k a.2.2.2.1 b.2.2.2.1 λf=>bif !f then d false else bif sNe a.2.2.2.2.1 b.2.2.2.2.1 then d false else bif sNe a.2.2.2.2.2 b.2.2.2.2.2 then d false else d true
def jj8:Sig Unit:=sg [.look y13 true,.look y13 true] [false] [(y13,none),(y13,none)] [] λb f k=>j8V b.1 b.2.1 (λd=>k [wB d] [] [])
theorem joM:SO 200 jj8:=fK (np:=0) (Za6 jkg (Za6 jnN Zas)) [] oN false Tryz.func200 λ_ _ _ _=>by delta j8V ji4 jeH;refine gz j9y λ_ b=>gz j6k λ_ d=> ?_;rewrite [<-b,<-d];kernel_rfl
end
end Go.PI.G
namespace Go.PI.G
noncomputable section
open Go Go.PI Go.Proofs
open Go.Code (pl pr)
def j4m (a:List qV) (left:Int) (i:Int) (rec:Int->Int->Res) (b:Int->Res) (d:Unit->Res):Res:=bif decide (i<(nI (List.length a))) then bif inb i (List.length a) then jba (nth (0,0,eS) a i) left λr=>bif decide (r<0) then d () else rec r (Z9K (i+1)) else none else b left
def jeA (a:List qV):(Int×Int)->(Int×Int->Res)->((Int->Res)×(Unit->Res))->Res:=λv rec q=>j4m a v.1 v.2 (λleft i=>rec (left,i)) q.1 q.2
def jcd (a:List qV) (n:Nat) (left:Int) (i:Int) (b:Int->Res) (d:Unit->Res):Res:=Z1f (jeA a) n (left,i) (b,d)
def jfK:Z1d Unit:=NdL 27 27 [.R 0 y3 .S,.I 1,.I 5] [] (λd f=>(d.2.1,d.2.2.1)) (λd v=>(d.1,v.1,v.2,())) (λf v=>()) (λd f=>jeA d.1) λd f g=>((λb=>g (.exit 0) [(1,vI b)] []),(λ_=>g .ret [(4,vI (-1))] []))
theorem jlS:CN 0 122 Tryz.f37 jfK:=lK (Za6 je9 Zas) [] oN ([],[]) [(0,[1],[])] ([4],[]) λ_ _ _ _ _=>by kernel_rfl
def j3H (a:List qV) (left:Int) (d:Int->Res):Res:=bif decide ((Z9K (left-(nI (List.length a))))<0) then d (-1) else jcd a Z1c (Z9K (left-(nI (List.length a)))) 0 (λb=>d b) (λ_=>d (-1))
def j9V:Sig Unit:=sg [.look y3 false,.look tI false] [false] [(y3,none),(tI,none)] [] λb f k=>j3H b.1 b.2.1 (λd=>k [wI d] [] [])
theorem jd5:SO 37 j9V:=fK (np:=0) (Za6 je9 Zas) [jfK] (oI 122 0 @jlS oN) false Tryz.func37 λ_ _ _ _=>by kernel_rfl
def j4p (a:List qV) (b:List qV) (i:Int) (rec:qW->Int->Res) (d:qW->Res):Res:=bif decide (i<(nI (List.length a))) then bif inb i (List.length a) then jbc (nth (0,0,eS) a i) λr=>bif inb i (List.length b) then rec (upd b i r) (Z9K (i+1)) else none else none else d b
def jae (a:List qV):(qW×Int)->(qW×Int->Res)->((qW->Res))->Res:=λv rec q=>j4p a v.1 v.2 (λb i=>rec (b,i)) q
def jmJ (a:List qV) (n:Nat) (b:List qV) (i:Int) (d:qW->Res):Res:=Z1f (jae a) n (b,i) (d)
def jfN:Z1d Unit:=NdL 23 23 [.R 0 y3 .S,.R 3 y3 .O,.I 4] [] (λb f=>(b.2.1,b.2.2.1)) (λb v=>(b.1,v.1,v.2,())) (λf v=>()) (λb f=>jae b.1) λb f g=>((λd=>g (.exit 0) [(3,v1 y3 d .O)] []))
theorem jlV:CN 0 58 Tryz.f39 jfN:=lK (Za6 jea Zas) [] oN ([],[]) [(0,[3],[])] ([],[]) λ_ _ _ _ _=>by kernel_rfl
def j18 (a:List qV) (d:qW->Res):Res:=bif Z9I (nI (List.length a)) (nI (List.length a)) then jmJ a Z1c (Z9h (nI (List.length a)) (0,0,eS)) 0 λb=>d b else none
def j7z:Sig Unit:=sg [.borrow y3 false] [false] [(y3,none)] [] λd f k=>j18 d.1 (λb=>k [w1 y3 b .O] [] [])
theorem jd6:SO 39 j7z:=fK (np:=0) (Za6 jea Zas) [jfN] (oI 58 0 @jlV oN) false Tryz.func39 λ_ _ _ _=>by kernel_rfl
def j49 (a:List qV) (b:List qV) (i:Int) (rec:Int->Res) (d:Unit->Res) (f:Unit->Res):Res:=bif decide (i<(nI (List.length a))) then bif inb i (List.length a) then bif inb i (List.length b) then jb8 (nth (0,0,eS) a i) (nth (0,0,eS) b i) λr=>bif !r then f () else rec (Z9K (i+1)) else none else none else d ()
def jes (a:List qV) (b:List qV):Int->(Int->Res)->((Unit->Res)×(Unit->Res))->Res:=λv rec q=>j49 a b v (λi=>rec (i)) q.1 q.2
def jgP (a:List qV) (b:List qV) (n:Nat) (i:Int) (d:Unit->Res) (f:Unit->Res):Res:=Z1f (jes a b) n (i) (d,f)
def jfH:Z1d Unit:=NdL 27 27 [.R 0 y3 .S,.R 1 y3 .S,.I 5] [] (λb d=>(b.2.2.1)) (λb v=>(b.1,b.2.1,v,())) (λd v=>()) (λb d=>jes b.1 b.2.1) λb d f=>((λ_=>f (.exit 0) [] []),(λ_=>f .ret [(4,vB false)] []))
theorem jlP:CN 0 58 Tryz.f41 jfH:=lK (Za6 je8 Zas) [] oN ([],[]) [(0,[],[])] ([4],[]) λ_ _ _ _ _=>by kernel_rfl
def j3G (a:List qV) (b:List qV) (d:Bool->Res):Res:=bif ((nI (List.length a)) != (nI (List.length b))) then d false else jgP a b Z1c 0 (λ_=>d true) (λ_=>d false)
def j9U:Sig Unit:=sg [.look y3 false,.look y3 false] [false] [(y3,none),(y3,none)] [] λb f k=>j3G b.1 b.2.1 (λd=>k [wB d] [] [])
theorem jd4:SO 41 j9U:=fK (np:=0) (Za6 je8 Zas) [jfH] (oI 58 0 @jlP oN) false Tryz.func41 λ_ _ _ _=>by kernel_rfl
def j2I (a:List qV) (b:Int) (i:Int) (rec:qW->Int->Int->Res) (d:qW->Int->Res):Res:=bif decide (i<(nI (List.length a))) then bif inb i (List.length a) then bif inb i (List.length (upd a i (b,(nth (0,0,eS) a i).2))) then j0o (Z9K ((Z9K (b+1))+1)) λr=>bif inb i (List.length (upd (upd a i (b,(nth (0,0,eS) a i).2)) i ((nth (0,0,eS) (upd a i (b,(nth (0,0,eS) a i).2)) i).1,Z9K (b+1),(nth (0,0,eS) (upd a i (b,(nth (0,0,eS) a i).2)) i).2.2))) then rec (upd (upd (upd a i (b,(nth (0,0,eS) a i).2)) i ((nth (0,0,eS) (upd a i (b,(nth (0,0,eS) a i).2)) i).1,Z9K (b+1),(nth (0,0,eS) (upd a i (b,(nth (0,0,eS) a i).2)) i).2.2)) i ((nth (0,0,eS) (upd (upd a i (b,(nth (0,0,eS) a i).2)) i ((nth (0,0,eS) (upd a i (b,(nth (0,0,eS) a i).2)) i).1,Z9K (b+1),(nth (0,0,eS) (upd a i (b,(nth (0,0,eS) a i).2)) i).2.2)) i).1,(nth (0,0,eS) (upd (upd a i (b,(nth (0,0,eS) a i).2)) i ((nth (0,0,eS) (upd a i (b,(nth (0,0,eS) a i).2)) i).1,Z9K (b+1),(nth (0,0,eS) (upd a i (b,(nth (0,0,eS) a i).2)) i).2.2)) i).2.1,r)) (Z9K ((Z9K ((Z9K (b+1))+1))+1)) (Z9K (i+1)) else none else none else none else d a b
def j8o:(qW×Int×Int)->(qW×Int×Int->Res)->((qW->Int->Res))->Res:=λv rec q=>j2I v.1 v.2.1 v.2.2 (λa b i=>rec (a,b,i)) q
def jex (n:Nat) (a:List qV) (d:Int) (i:Int) (b:qW->Int->Res):Res:=Z1f (j8o) n (a,d,i) (b)
def jdL:Z1d Unit:=NdL 35 35 [.R 0 y3 .O,.I 1,.I 5] [] (λb f=>(b.1,b.2.1,b.2.2.1)) (λb v=>(v.1,v.2.1,v.2.2,())) (λf v=>()) (λb f=>j8o) λb f h=>((λg d=>h (.exit 0) [(0,v1 y3 g .O),(1,vI d)] []))
theorem jjL:CN 1 26 Tryz.f51 jdL:=lK (Za6 j0n Zas) [] oN ([],[]) [(0,[0,1],[])] ([],[]) λ_ _ _ _ _=>by kernel_rfl
def j1r (a:List qV) (g:Int) (f:Int->qW->Res):Res:=jex Z1c a g 0 λd b=>f b d
def j5m:Sig Unit:=sg [.inout y3 false,.borrow tI false] [false] [(y3,some [.O]),(tI,none)] [] λb g k=>j1r b.1 b.2.1 (λf d=>k [wI f] [w1 y3 d .O] [])
theorem j7T:SO 51 j5m:=fK (np:=1) (Za6 j0n Zas) [jdL] (oI 26 0 @jjL oN) false Tryz.func51 λ_ _ _ _=>by kernel_rfl
def j2G (a:List qV) (b:Int) (i:Int) (rec:Int->Int->Res) (f:Int->Res) (d:Unit->Res):Res:=bif decide (i<(nI (List.length a))) then bif inb i (List.length a) then bif ((nth (0,0,eS) a i).1 != b) then d () else bif inb i (List.length a) then bif ((nth (0,0,eS) a i).2.1 != (Z9K (b+1))) then d () else bif inb i (List.length a) then j0o (Z9K ((Z9K (b+1))+1)) λr=>bif sNe (nth (0,0,eS) a i).2.2 r then d () else rec (Z9K ((Z9K ((Z9K (b+1))+1))+1)) (Z9K (i+1)) else none else none else none else f b
def j8n (a:List qV):(Int×Int)->(Int×Int->Res)->((Int->Res)×(Unit->Res))->Res:=λv rec q=>j2G a v.1 v.2 (λb i=>rec (b,i)) q.1 q.2
def jet (a:List qV) (n:Nat) (f:Int) (i:Int) (b:Int->Res) (d:Unit->Res):Res:=Z1f (j8n a) n (f,i) (b,d)
def jdH:Z1d Unit:=NdL 41 41 [.R 0 y3 .S,.I 1,.I 5] [] (λb f=>(b.2.1,b.2.2.1)) (λb v=>(b.1,v.1,v.2,())) (λf v=>()) (λb f=>j8n b.1) λb f g=>((λd=>g (.exit 0) [(1,vI d)] []),(λ_=>g .ret [(4,vI (-1))] []))
theorem jjx:CN 0 26 Tryz.f118 jdH:=lK (Za6 j0n Zas) [] oN ([],[]) [(0,[1],[])] ([4],[]) λ_ _ _ _ _=>by kernel_rfl
def j9N (a:List qV) (f:Int) (d:Int->Res):Res:=jet a Z1c f 0 (λb=>d b) (λ_=>d (-1))
def jmc:Sig Unit:=sg [.look y3 false,.look tI false] [false] [(y3,none),(tI,none)] [] λb f k=>j9N b.1 b.2.1 (λd=>k [wI d] [] [])
theorem jf8:SO 118 jmc:=fK (np:=0) (Za6 j0n Zas) [jdH] (oI 26 0 @jjx oN) false Tryz.func118 λ_ _ _ _=>by kernel_rfl
end
end Go.PI.G
namespace Go.PI.G
noncomputable section
open Go Go.PI Go.Proofs
open Go.Code (pl pr)
def jb9 (a:List qV) (left:Int) (b:Int->Res):Res:=j3H a left λr=>bif decide (r<0) then b (-1) else b r
def jjb:Sig Unit:=sg [.look y3 true,.look tI false] [false] [(y3,none),(tI,none)] [] λb f k=>jb9 b.1 b.2.1 (λd=>k [wI d] [] [])
theorem joO:SO 184 jjb:=fK (np:=0) (Za6 jd5 Zas) [] oN false Tryz.func184 λ_ _ _ _=>by kernel_rfl
def jbb (a:List qV) (b:qW->Res):Res:=j18 a λr=>b r
def jjd:Sig Unit:=sg [.borrow y3 true] [true] [(y3,none)] [] λd f k=>jbb d.1 (λb=>k [⟨y3,true,b,[.O]⟩] [] [])
theorem joQ:SO 193 jjd:=fK (np:=0) (Za6 jd6 Zas) [] oN false Tryz.func193 λ_ _ _ _=>by kernel_rfl
def j8W (a:List qV) (b:List qV) (d:Bool->Res):Res:=j3G a b λr=>bif !r then d false else d true
def jj9:Sig Unit:=sg [.look y3 true,.look y3 true] [false] [(y3,none),(y3,none)] [] λb f k=>j8W b.1 b.2.1 (λd=>k [wB d] [] [])
theorem jix:SO 50 jj9:=fK (np:=0) (Za6 jd4 Zas) [] oN false Tryz.func50 λ_ _ _ _=>by kernel_rfl
end
end Go.PI.G
namespace Go.PI.G
noncomputable section
open Go Go.PI Go.Proofs
open Go.Code (pl pr)
def j9D (a:qS) (left:Int) (b:Int->Res):Res:=bif decide ((Z9K (left-(nI (ByteArray.size a.2.1))))<0) then b (-1) else j3H a.2.2.1 (Z9K (left-(nI (ByteArray.size a.2.1)))) λr=>bif decide (r<0) then b (-1) else jb9 a.2.2.2.1 r λd=>bif decide (d<0) then b (-1) else j8X a.2.2.2.2 d λf=>bif decide (f<0) then b (-1) else b f
def joy:Sig Unit:=sg [.look y17 true,.look tI false] [false] [(y17,none),(tI,none)] [] λb f k=>j9D b.1 b.2.1 (λd=>k [wI d] [] [])
theorem jnS:SO 132 joy:=fK (np:=0) (Za6 jd5 (Za6 joO (Za6 joN Zas))) [] oN false Tryz.func132 λ_ _ _ _=>by delta j9D j9V jjb jja;refine gz j3H λ_ b=>gz jb9 λ_ d=>gz j8X λ_ f=> ?_;rewrite [<-b,<-d,<-f];kernel_rfl
def j9F (a:qS) (b:qS->Res):Res:=j18 a.2.2.1 λr=>jbb a.2.2.2.1 λd=>j8Y a.2.2.2.2 λf=>b (a.1,a.2.1,r,d,f)
def joz:Sig Unit:=sg [.borrow y17 true] [true] [(y17,none)] [] λd f k=>j9F d.1 (λb=>k [⟨y17,true,b,[.O,.O,.O,.O]⟩] [] [])
theorem jnV:SO 137 joz:=fK (np:=0) (Za6 jd6 (Za6 joQ (Za6 joP Zas))) [] oN false Tryz.func137 λ_ _ _ _=>by delta j9F j7z jjd jjc;refine gz j18 λ_ b=>gz jbb λ_ d=>gz j8Y λ_ f=> ?_;rewrite [<-b,<-d,<-f];kernel_rfl
def j9A (a:qS) (b:qS) (d:Bool->Res):Res:=bif (a.1 != b.1) then d false else bif sNe a.2.1 b.2.1 then d false else j3G a.2.2.1 b.2.2.1 λr=>bif !r then d false else j8W a.2.2.2.1 b.2.2.2.1 λf=>bif !f then d false else j8V a.2.2.2.2 b.2.2.2.2 λg=>bif !g then d false else d true
def jox:Sig Unit:=sg [.look y17 true,.look y17 true] [false] [(y17,none),(y17,none)] [] λb f k=>j9A b.1 b.2.1 (λd=>k [wB d] [] [])
theorem jnP:SO 140 jox:=fK (np:=0) (Za6 jd4 (Za6 jix (Za6 joM Zas))) [] oN false Tryz.func140 λ_ _ _ _=>by delta j9A j9U jj9 jj8;refine gz j3G λ_ b=>gz j8W λ_ d=>gz j8V λ_ f=> ?_;rewrite [<-b,<-d,<-f];kernel_rfl
end
end Go.PI.G
namespace Go.PI.G
noncomputable section
open Go Go.PI Go.Proofs
open Go.Code (pl pr)
def jdS (a:Int×Int×qS) (left:Int) (b:Int->Res):Res:=j9D a.2.2 left λr=>bif decide (r<0) then b (-1) else b r
def jpE:Sig Unit:=sg [.look y19 true,.look tI false] [false] [(y19,none),(tI,none)] [] λb f k=>jdS b.1 b.2.1 (λd=>k [wI d] [] [])
theorem jiA:SO 75 jpE:=fK (np:=0) (Za6 jnS Zas) [] oN false Tryz.func75 λ_ _ _ _=>by kernel_rfl
def jdU (a:Int×Int×qS) (b:qP->Res):Res:=j9F a.2.2 λr=>b (a.1,a.2.1,r)
def jpH:Sig Unit:=sg [.borrow y19 true] [true] [(y19,none)] [] λd f k=>jdU d.1 (λb=>k [⟨y19,true,b,[.O,.O,.O,.O]⟩] [] [])
theorem jiC:SO 77 jpH:=fK (np:=0) (Za6 jnV Zas) [] oN false Tryz.func77 λ_ _ _ _=>by kernel_rfl
def jdQ (a:Int×Int×qS) (b:Int×Int×qS) (d:Bool->Res):Res:=bif (a.1 != b.1) then d false else bif (a.2.1 != b.2.1) then d false else j9A a.2.2 b.2.2 λr=>bif !r then d false else d true
def jpB:Sig Unit:=sg [.look y19 true,.look y19 true] [false] [(y19,none),(y19,none)] [] λb f k=>jdQ b.1 b.2.1 (λd=>k [wB d] [] [])
theorem jiw:SO 79 jpB:=fK (np:=0) (Za6 jnP Zas) [] oN false Tryz.func79 λ_ _ _ _=>by kernel_rfl
end
end Go.PI.G
