/-
  Program's code interpreted over typed values; printed texts; plain laws. No conditions.
-/
import Derived.Test.YtnemiodjnhfejaaGreatPc
import Derived.Test.YtnemiodjnhfejaaGreatBOd
import Derived.Test.YtnemiodjnhfejaaGreatBOg
import Derived.Test.YtnemiodjnhfejaaGreatBOe
import Derived.Test.YtnemiodjnhfejaaGreatBOf
set_option linter.unusedVariables false
set_option maxRecDepth 100000
namespace Go.PI.G
noncomputable section
open Go Go.PI Go.Proofs
open Go.Code (pl pr)
def j2V (f:List qP) (g:Int) (d:List Int) (b:Int) (rec:(List Int)->Int->Res) (h:(List Int)->Res):Res:=bif decide (b<g) then bif inb b (List.length f) then bif ((nth (0,0,0,eS,[],[],0,eS,[],[],eS,eS) f b).1==3) then bif lim ((List.length d)+1) then rec (d++[Z9K (b+1)]) (Z9K (b+1)) else none else rec d (Z9K (b+1)) else none else h d
def j54 (d:List qP) (f:Int):((List Int)×Int)->((List Int)×Int->Res)->(((List Int)->Res))->Res:=λv rec q=>j2V d f v.1 v.2 (λb g=>rec (b,g)) q
def jac (d:List qP) (f:Int) (n:Nat) (b:List Int) (g:Int) (h:(List Int)->Res):Res:=Z1f (j54 d f) n (b,g) (h)
def j9g:Z1d Unit:=NdL 28 28 [.R 3 y21 .O,.R 11 y20 .S,.I 12,.I 13] [] (λb f=>(b.1,b.2.2.2.1)) (λb v=>(v.1,b.2.1,b.2.2.1,v.2,())) (λf v=>()) (λb f=>j54 b.2.1 b.2.2.1) λb f g=>((λd=>g (.exit 0) [(3,v1 y21 d .O)] []))
theorem jiF:CN 0 122 Tryz.f108 j9g:=lK (Za6 jcN Zas) [] oN ([],[]) [(0,[3],[])] ([],[]) λ_ _ _ _ _=>by kernel_rfl
def j5S (l:List qP) (d:(List Int)->Res):Res:=j7W l λr=>bif !r then d [] else jac l (nI (List.length l)) Z1c [] 0 λb=>d b
def jb1:Sig Unit:=sg [.borrow y20 false] [false] [(y20,none)] [] λd f k=>j5S d.1 (λb=>k [w1 y21 b .O] [] [])
theorem jkj:SO 108 jb1:=fK (np:=0) (Za6 jcN Zas) [j9g] (oI 122 0 @jiF oN) false Tryz.func108 λ_ _ _ _=>by delta j5S jdf j9g jac;refine gz j7W λ_ b=>gz j54 λ_ d=> ?_;rewrite [<-b,<-d];kernel_rfl
def j2M (f:List qP) (g:Int) (d:List Int) (b:Int) (rec:(List Int)->Int->Res) (h:(List Int)->Res):Res:=bif decide (b<g) then bif inb b (List.length f) then bif ((nth (0,0,0,eS,[],[],0,eS,[],[],eS,eS) f b).1==3) then bif lim ((List.length d)+1) then rec (d++[Z9K (b+1)]) (Z9K (b+1)) else none else rec d (Z9K (b+1)) else none else h d
def j4X (d:List qP) (f:Int):((List Int)×Int)->((List Int)×Int->Res)->(((List Int)->Res))->Res:=λv rec q=>j2M d f v.1 v.2 (λb g=>rec (b,g)) q
def j9I (d:List qP) (f:Int) (n:Nat) (b:List Int) (g:Int) (h:(List Int)->Res):Res:=Z1f (j4X d f) n (b,g) (h)
def j9a:Z1d Unit:=NdL 28 28 [.R 3 y21 .O,.R 11 y20 .S,.I 12,.I 13] [] (λb f=>(b.1,b.2.2.2.1)) (λb v=>(v.1,b.2.1,b.2.2.1,v.2,())) (λf v=>()) (λb f=>j4X b.2.1 b.2.2.1) λb f g=>((λd=>g (.exit 0) [(3,v1 y21 d .O)] []))
theorem jir:CN 0 122 Tryz.f109 j9a:=lK (Za6 jcE Zas) [] oN ([],[]) [(0,[3],[])] ([],[]) λ_ _ _ _ _=>by kernel_rfl
def j5l (l:List qP) (d:(List Int)->Res):Res:=j6c l λr=>bif !r then d [] else j9I l (nI (List.length l)) Z1c [] 0 λb=>d b
def jaW:Sig Unit:=sg [.borrow y20 false] [false] [(y20,none)] [] λd f k=>j5l d.1 (λb=>k [w1 y21 b .O] [] [])
theorem jkd:SO 109 jaW:=fK (np:=0) (Za6 jcE Zas) [j9a] (oI 122 0 @jir oN) false Tryz.func109 λ_ _ _ _=>by delta j5l ja5 j9a j9I;refine gz j6c λ_ b=>gz j4X λ_ d=> ?_;rewrite [<-b,<-d];kernel_rfl
end
end Go.PI.G
namespace Go.PI.G
noncomputable section
open Go Go.PI Go.Proofs
open Go.Code (pl pr)
def j5V (l:List qP) (d:qB) (g:List qV) (place:Int) (f:qW->Bool->Res):Res:=j9v l place λr i=>j1l r.1 d λb=>bif !i then f [] false else bif decide (b<0) then f [] false else bif inb b (List.length r.1) then bif inb b (List.length r.2) then j17 (nth (eS,[],[]) r.1 b) (nth [] r.2 b) g λh=>bif decide (h<0) then f [] false else bif inb b (List.length r.2) then bif inb h (List.length (nth [] r.2 b)) then j0a (nth [] (nth [] r.2 b) h) λj=>f j true else none else none else none else none
def jb3:Sig Unit:=sg [.borrow y20 false,.borrow .str false,.borrow y3 false,.borrow tI false] [true,false] [(y20,none),(.str,none),(y3,none),(tI,none)] [] λb g k=>j5V b.1 b.2.1 b.2.2.1 b.2.2.2.1 (λd f=>k [⟨y3,true,d,[.O]⟩,wB f] [] [])
theorem jkl:SO 48 jb3:=fK (np:=0) (Za6 jnS (Za6 j9C (Za6 j9B (Za6 j1Q Zas)))) [] oN false Tryz.func48 λ_ _ _ _=>by delta j5V ji2 j2q j7q j1T;refine gz j9v λ_ b=>gz j1l λ_ d=>gz j17 λ_ f=>gz j0a λ_ g=> ?_;rewrite [<-b,<-d,<-f,<-g];kernel_rfl
theorem jel:FS [(48,jb3),(108,jb1),(115,j1T),(126,j4B)]:=(Za6 jkl (Za6 jkj (Za6 j1Q (Za6 jbs Zas))))
def j7x (b:Bool) (ok:Bool) (row:List qV) (r:List qV) (d:Bool->Res):Res:=bif !(ok==b) then d true else j2c r row λf=>d (!f)
def j8M:Z1d Unit:=Nd 54 54 [.R 0 y20 .S,.S 1,.R 2 y3 .S,.R 7 y26 .O,.t 8 (pB 8),.B 9,.I 11,.t 12 (pB 12),.B 13,.R 17 y21 .O,.I 18,.I 19] [(8,y3,[.O]),(12,y3,[.O])] λb d g=>j7x b.2.2.2.2.1 b.2.2.2.2.2.2.1 d.1.2 d.2.1.2 (λf=>g .normal [(0,v1 y20 b.1 .S),(1,vS b.2.1),(2,v1 y3 b.2.2.1 .S),(7,v1 y26 b.2.2.2.1 .O),(8,pB 8),(11,vI b.2.2.2.2.2.1),(12,pB 12),(13,vB b.2.2.2.2.2.2.1),(17,v1 y21 b.2.2.2.2.2.2.2.1 .O),(18,vI b.2.2.2.2.2.2.2.2.1),(19,vI b.2.2.2.2.2.2.2.2.2.1),(41,vB f)] [(8,⟨y3,d.1.1,d.1.2,[.O]⟩),(12,⟨y3,d.2.1.1,d.2.1.2,[.O]⟩)])
theorem jm9:CN 0 128204 Tryz.f59 j8M:=nK jel [] oN ([0,1,2,7,8,11,12,13,17,18,19,41],[8,12]) [] ([],[]) λ_ _ _=>by kernel_rfl
def j3r (l:List qP) (g:qB) (j:List qV) (f:List Int) (k:Int) (d:List (Int×qW×Bool)) (i:Bool) (b:Int) (row:List qV) (rec:(List (Int×qW×Bool))->Bool->Int->qW->Res) (m:(List (Int×qW×Bool))->Res):Res:=bif decide (b<k) then bif inb b (List.length f) then j5V l g j (nth 0 f b) λr h=>j7x i h row r λt=>bif t then j0a r λn=>bif lim ((List.length d)+1) then rec (d++[(nth 0 f b,n,h)]) h (Z9K (b+1)) r else none else rec d h (Z9K (b+1)) r else none else m d
def j5U (l:List qP) (b:qB) (f:List qV) (h:List Int) (i:Int):((List (Int×qW×Bool))×Bool×Int×qW)->((List (Int×qW×Bool))×Bool×Int×qW->Res)->(((List (Int×qW×Bool))->Res))->Res:=λv rec q=>j3r l b f h i v.1 v.2.1 v.2.2.1 v.2.2.2 (λg d j row=>rec (g,d,j,row)) q
def jdj (l:List qP) (b:qB) (f:List qV) (h:List Int) (i:Int) (n:Nat) (g:List (Int×qW×Bool)) (d:Bool) (j:Int) (row:List qV) (k:(List (Int×qW×Bool))->Res):Res:=Z1f (j5U l b f h i) n (g,d,j,row) (k)
def jcf:Z1d Unit:=NdL 54 54 [.R 0 y20 .S,.S 1,.R 2 y3 .S,.R 7 y26 .O,.t 8 (pB 8),.B 9,.R 17 y21 .O,.I 18,.I 19] [(8,y3,[.O])] (λb f=>(b.2.2.2.1,b.2.2.2.2.1,b.2.2.2.2.2.2.2.1,f.1.2)) (λb v=>(b.1,b.2.1,b.2.2.1,v.1,v.2.1,b.2.2.2.2.2.1,b.2.2.2.2.2.2.1,v.2.2.1,())) (λf v=>((f.1.1,v.2.2.2),())) (λb f=>j5U b.1 b.2.1 b.2.2.1 b.2.2.2.2.2.1 b.2.2.2.2.2.2.1) λb f g=>((λd=>g (.exit 0) [(7,v1 y26 d .O)] []))
theorem jm8:CN 0 250 Tryz.f59 jcf:=lK jel [j8M] (oI 460 0 @jm9 oN) ([],[]) [(0,[7],[])] ([],[]) λ_ _ _ _ _=>by delta j5U j3r jb3 j8M j1T;refine gz j5V λ_ b=>gz j7x λ_ d=>gz j0a λ_ f=> ?_;rewrite [<-b,<-d,<-f];kernel_rfl
def jbA (l:List qP) (b:qB) (d:List qV) (g:(List (Int×qW×Bool))->Res):Res:=j5S l λr=>jdj l b d r (nI (List.length r)) Z1c [] false 0 [] λf=>g f
def jod:Sig Unit:=sg [.borrow y20 false,.borrow .str false,.borrow y3 false] [false] [(y20,none),(.str,none),(y3,none)] [] λb f k=>jbA b.1 b.2.1 b.2.2.1 (λd=>k [w1 y26 d .O] [] [])
theorem jnV:SO 59 jod:=fK (np:=0) jel [j8M,jcf] (oI 250 1 @jm8 oN) false Tryz.func59 λ_ _ _ _=>by delta jbA jb1 jcf jdj;refine gz j5S λ_ b=>gz j5U λ_ d=> ?_;rewrite [<-b,<-d];kernel_rfl
def jbz (l:List qP) (b:qB) (d:List qV) (f:Int->Res):Res:=jbA l b d λr=>bif ((nI (List.length r))==0) then f 0 else bif inb 0 (List.length r) then f (nth (0,[],false) r 0).1 else none
def ji1:Sig Unit:=sg [.look y20 false,.look .str false,.look y3 false] [false] [(y20,none),(.str,none),(y3,none)] [] λb f k=>jbz b.1 b.2.1 b.2.2.1 (λd=>k [wI d] [] [])
theorem jnR:SO 38 ji1:=fK (np:=0) (Za6 jnV Zas) [] oN false Tryz.func38 λ_ _ _ _=>by kernel_rfl
def j9P (place:Int) (b:qF×List qR) (d:List qD) (f:(List qD)->Res):Res:=bif lim ((List.length d)+1) then f (d++[b]) else none
def jb0:Sig Unit:=sg [.borrow tI false,.borrow y33 true,.ptr y34] [] [(tI,none),(y33,none)] [(y34,[.PS])] λb d k=>j9P b.1 b.2.1 d.1.2 (λf=>k [] [] [⟨y34,d.1.1,f,[.PS]⟩])
theorem jki:SO 181 jb0:=fK (np:=0) Zas [] oN false Tryz.func181 λ_ _ _ _=>by kernel_rfl
theorem j6w:FS [(138,j5B),(181,jb0),(222,j7m),(223,j1q),(224,j5D),(225,j18)]:=(Za6 jeL (Za6 jki (Za6 jgL (Za6 j9l (Za6 jeN (Za6 j80 Zas))))))
def j3m (l:List qP) (i:Int) (d:qF×List qR) (r:Int×Int×qS) (b:Int->qD->Res):Res:=bif Z8e 0 i (List.length l) then Z87 (j1A (sub l 0 i) r.2.1 λn=>Z87 (j0L d n λg h w=>Z87 (Z87 (b h g) (Z87 (b h g) (b h g))) (Z87 (Z87 (b h g) (Z87 (b h g) (b h g))) (Z87 (Z87 (b h g) (b h g)) (Z87 (Z87 (b h g) (b h g)) (b h g))))) (j0L d n λj k y=>Z87 (Z87 (b k j) (b k j)) (Z87 (Z87 (b k j) (b k j)) (b k j)))) (j1A (sub l 0 i) r.2.1 λq=>j0L d q λm f p=>Z87 (Z87 (b f m) (b f m)) (Z87 (Z87 (b f m) (b f m)) (b f m))) else none
def j2G:Z1d Unit:=Nd 84 85 [.R 1 y20 .S,.t 2 (.clos 181 [⟨true,84,[]⟩]),.t 3 (pB 3),.t 6 (pB 6),.R 8 y21 .O,.R 9 y21 .O,.I 10,.t 11 (pB 11),.R 17 y20 .S,.I 18,.I 19] [(3,y33,[.S,.S]),(6,y33,[.O,.O]),(11,y19,[.S,.S,.S,.S]),(84,y34,[.PS])] λd b f=>j3m d.1 d.2.2.2.1 b.1.2 b.2.2.1.2 (λcode next=>f .normal [(1,v1 y20 d.1 .S),(2,.clos 181 [⟨true,84,[]⟩]),(3,pB 3),(6,pB 6),(8,v1 y21 d.2.1 .O),(9,v1 y21 d.2.2.1 .O),(10,vI d.2.2.2.1),(11,pB 11),(12,pB 12),(13,vI code),(17,v1 y20 d.2.2.2.2.1 .S),(18,vI d.2.2.2.2.2.1),(19,vI d.2.2.2.2.2.2.1)] [(3,⟨y33,b.1.1,b.1.2,[.S,.S]⟩),(6,⟨y33,b.2.1.1,b.2.1.2,[.O,.O]⟩),(11,⟨y19,b.2.2.1.1,b.2.2.1.2,[.S,.S,.S,.S]⟩),(12,⟨y33,false,next,[.O,.O]⟩),(84,⟨y34,b.2.2.2.1.1,b.2.2.2.1.2,[.PS]⟩)])
theorem jjC:CN 0 478452 Tryz.f170 j2G:=nK j6w [] oN ([1,2,3,6,8,9,10,11,12,13,17,18,19],[3,6,11,12,84]) [] ([],[]) λ_ _ _=>by delta j3m j5D j5B;refine gz j1A λ_ b=>gz j0L λ_ d=> ?_;rewrite [<-b,<-d];kernel_rfl
def j5t (l:List qP) (i:Int) (f:Bool) (d:qF×List qR) (r:Int×Int×qS) (g:List qD) (h:qD->(List qD)->Res) (j:Unit->Res):Res:=bif f then j3m l i d r λcode next=>bif (code != 0) then j () else j9P (Z9K (i+1)) d g λb=>h next b else h d g
def j4O:Z1d Unit:=λσ k=>rdN σ 84<|rd1 σ 1 y20 .S λl=>rdT σ 2 (.clos 181 [⟨true,84,[]⟩])<|rdT σ 3 (pB 3)<|rdT σ 6 (pB 6)<|rd1 σ 8 y21 .O λb=>rd1 σ 9 y21 .O λf=>rdI σ 10 λi=>rdT σ 11 (pB 11)<|rd1 σ 17 y20 .S λh=>rdI σ 18 λj=>rdI σ 19 λm=>rdO σ 54 λn=>rdB σ 3 y33 [.S,.S] λa d=>rdB σ 6 y33 [.O,.O] λp A=>rdB σ 11 y19 [.S,.S,.S,.S] λy r=>rdB σ 84 y34 [.PS] λq w=>j5t l i n d r w (λz g=>k .normal (mkS 84 85 [(1,v1 y20 l .S),(2,.clos 181 [⟨true,84,[]⟩]),(3,pB 3),(6,pB 6),(8,v1 y21 b .O),(9,v1 y21 f .O),(11,pB 11),(17,v1 y20 h .S),(18,vI j),(19,vI m)] [(3,⟨y33,a,z,[.S,.S]⟩),(6,⟨y33,p,A,[.O,.O]⟩),(11,⟨y19,y,r,[.S,.S,.S,.S]⟩),(84,⟨y34,q,g,[.PS]⟩)])) (λ_=>k .ret (mkS 84 85 [(6,pB 6),(7,vB false)] [(6,⟨y33,p,([],[]),[.O,.O]⟩),(84,⟨y34,q,w,[.PS]⟩)]))
theorem jjD:CN 0 119613 Tryz.f170 j4O:=λA=>jjs follows j1x j6w A [j2G] (oI 4 0 @jjC oN) ([1,2,3,6,8,9,11,17,18,19],[3,6,11,84]) [] ([6,7],[6,84]) [(0,[],[(3,[.S,.S])])] λσ k _ h=>rN h λL h=>rV h λl F h=>rT h λG h=>rT h λH h=>rT h λI h=>rV h λB J h=>rV h λD K h=>rV h λi g h=>rT h λj h=>rV h λM n h=>rV h λP p h=>rV h λQ q h=>rV h λR w h=>rB h λa d y h=>rB h λT W z h=>rB h λU r b h=>rB h λV C f h=>⟨_,ZaM (m:=85) L (sC F (sC G (sC H (sC I (sC J (sC K (sC g (sC j (sC n (sC p (sC q (sC w sN)))))))))))) (bC y (bC z (bC b (bC f bN)))),.trans (by delta j5t j2G jb0;refine gz j3m λ_ C=>gz j9P λ_ E=> ?_;rewrite [<-C,<-E];kernel_rfl) h⟩
def j27 (l:List qP) (g:List qP) (k:Int) (f:List Int) (h:List Int) (b:Int) (d:qF×List qR) (i:List qD) (rec:(List Int)->(List Int)->Int->qD->(List qD)->Res) (n:qD->(List qD)->Res) (j:(List qD)->Res):Res:=bif decide (b<k) then bif inb b (List.length g) then j4s (nth (0,0,0,eS,[],[],0,eS,[],[],eS,eS) g b) λr=>bif !r then j i else bif ((nth (0,0,0,eS,[],[],0,eS,[],[],eS,eS) g b).1==1) then j0m h (nth (0,0,0,eS,[],[],0,eS,[],[],eS,eS) g b).2.1 λp=>bif p then j i else bif lim ((List.length h)+1) then bif lim ((List.length f)+1) then rec (f++[(nth (0,0,0,eS,[],[],0,eS,[],[],eS,eS) g b).2.1]) (h++[(nth (0,0,0,eS,[],[],0,eS,[],[],eS,eS) g b).2.1]) (Z9K (b+1)) d i else none else none else j0m f (nth (0,0,0,eS,[],[],0,eS,[],[],eS,eS) g b).2.1 λq=>bif !q then j i else j5t l b ((nth (0,0,0,eS,[],[],0,eS,[],[],eS,eS) g b).1==3) d (nth (0,0,0,eS,[],[],0,eS,[],[],eS,eS) g b) i (λm e=>bif ((nth (0,0,0,eS,[],[],0,eS,[],[],eS,eS) g b).1 != 2) then j0E f (nth (0,0,0,eS,[],[],0,eS,[],[],eS,eS) g b) λw y=>rec w h (Z9K (b+1)) m e else rec f h (Z9K (b+1)) m e) (λ_=>j i) else none else n d i
def j6f (l:List qP) (g:List qP) (h:Int):((List Int)×(List Int)×Int×qD×(List qD))->((List Int)×(List Int)×Int×qD×(List qD)->Res)->((qD->(List qD)->Res)×((List qD)->Res))->Res:=λv rec q=>j27 l g h v.1 v.2.1 v.2.2.1 v.2.2.2.1 v.2.2.2.2 (λb f i d j=>rec (b,f,i,d,j)) q.1 q.2
def jf9 (l:List qP) (g:List qP) (h:Int) (n:Nat) (b:List Int) (f:List Int) (i:Int) (d:qF×List qR) (j:List qD) (k:qD->(List qD)->Res) (m:(List qD)->Res):Res:=Z1f (j6f l g h) n (b,f,i,d,j) (k,m)
def jap:Z1d Unit:=NdL 84 85 [.R 1 y20 .S,.t 2 (.clos 181 [⟨true,84,[]⟩]),.t 3 (pB 3),.t 6 (pB 6),.R 8 y21 .O,.R 9 y21 .O,.R 17 y20 .S,.I 18,.I 19] [(3,y33,[.S,.S]),(6,y33,[.O,.O]),(84,y34,[.PS])] (λd b=>(d.2.1,d.2.2.1,d.2.2.2.2.2.1,b.1.2,b.2.2.1.2)) (λd v=>(d.1,v.1,v.2.1,d.2.2.2.1,d.2.2.2.2.1,v.2.2.1,())) (λb v=>((b.1.1,v.2.2.2.1),(b.2.1.1,b.2.1.2),(b.2.2.1.1,v.2.2.2.2),())) (λd b=>j6f d.1 d.2.2.2.1 d.2.2.2.2.1) λd b h=>((λi f=>h (.exit 0) [(3,pB 3),(6,pB 6)] [(3,⟨y33,b.1.1,i,[.S,.S]⟩),(6,⟨y33,b.2.1.1,b.2.1.2,[.O,.O]⟩),(84,⟨y34,b.2.2.1.1,f,[.PS]⟩)]),(λg=>h .ret [(6,pB 6),(7,vB false)] [(6,⟨y33,b.2.1.1,([],[]),[.O,.O]⟩),(84,⟨y34,b.2.2.1.1,g,[.PS]⟩)]))
theorem jjB:CN 0 58 Tryz.f170 jap:=lK j6w [j2G,j4O] (oI 1853 1 @jjD oN) ([],[]) [(0,[3,6],[3,6,84])] ([6,7],[6,84]) λ_ _ _ _ _=>by delta j6f j27 j7m j1q j4O j18;refine gz j4s λ_ b=>gz j0m λ_ d=>gz j5t λ_ f=>gz j0E λ_ g=> ?_;rewrite [<-b,<-d,<-f,<-g];kernel_rfl
def jaR (l:List qP) (d:qF×List qR) (g:List qD) (b:Bool->qD->(List qD)->Res):Res:=jf9 l l (nI (List.length l)) Z1c [] [] 0 d g (λf e=>b true f e) (λh=>b false ([],[]) h)
def je3:Z1d Unit:=λσ k=>rdN σ 84<|rd1 σ 1 y20 .S λl=>rdT σ 2 (.clos 181 [⟨true,84,[]⟩])<|rdT σ 3 (pB 3)<|rdT σ 6 (pB 6)<|rdB σ 3 y33 [.S,.S] λa d=>rdB σ 6 y33 [.O,.O] λg m=>rdB σ 84 y34 [.PS] λh i=>jaR l d i (λj f b=>k .ret (mkS 84 85 [(6,pB 6),(7,vB j)] [(6,⟨y33,g,f,[.S,.S]⟩),(84,⟨y34,h,b,[.PS]⟩)]))
theorem jjE:CN 0 3 Tryz.f170 je3:=λi=>jjs follows j1x j6w i [j2G,j4O,jap] (oI 26 2 @jjB oN) ([],[]) [] ([6,7],[6,84]) [(1,[],[(6,[.S,.S])])] λσ k _ h=>rN h λr h=>rV h λl j h=>rT h λn h=>rT h λp h=>rT h λq h=>rB h λa d f h=>rB h λw A g h=>rB h λy z b h=>⟨_,ZaM (m:=85) r (sC j (sC n (sC p (sC q sN)))) (bC f (bC g (bC b bN))),.trans (by kernel_rfl) h⟩
def jbp (d:qF×List qR) (l:List qP) (b:List qD) (f:qD->Bool->(List qD)->Res):Res:=jaR l d b λt g e=>f g t e
def jme:Sig Unit:=sg [.borrow y33 true,.borrow y20 false,.clos 181 [y34]] [true,false] [(y33,none),(y20,none)] [(y34,[.PS])] λb d k=>jbp b.1 b.2.1 d.1.2 (λf g h=>k [⟨y33,true,f,[.S,.S]⟩,wB g] [] [⟨y34,d.1.1,h,[.PS]⟩])
theorem jgb:SO 170 jme:=fK (np:=0) j6w [j2G,j4O,jap,je3] (oI 3 3 @jjE oN) false Tryz.func170 λ_ _ _ _=>by kernel_rfl
def jaQ (l:List qP) (d:List qD) (f:(List qD)->Res):Res:=jbp ([],[]) l d λr g b=>bif lim ((List.length b)+1) then bif Z8e 1 (nI (List.length (b++[r]))) (List.length (b++[r])) then f (sub (b++[r]) 1 (nI (List.length (b++[r])))) else none else none
def je0:Z1d Unit:=λσ k=>rdN σ 20<|rd1 σ 0 y20 .S λl=>rdT σ 3 (pB 3)<|rdB σ 3 y34 [.PS] λa b=>jaQ l b (λd=>k .ret (mkS 20 20 [(2,v1 y34 d .N)] []))
def je2:Z1d Unit:=λσ k=>je0 (σ.wk [] [(3,[.PS])]) k
theorem jjA:CN 0 7 Tryz.f127 je2:=λd=>ZaJ [] [(3,[.PS])] (jms follows j1x (Za6 jgb Zas) d [] oN ([],[]) [] ([2],[]) (y:=je0) λσ k _ h=>rN h λi h=>rV h λl f h=>rT h λg h=>rB h λa j b h=>⟨_,ZaM (m:=20) i (sC f (sC g sN)) (bC b bN),.trans (by kernel_rfl) h⟩)
def j8p (l:List qP) (b:(List qD)->Res):Res:=jaQ l [] λt=>b t
def jbU:Sig Unit:=sg [.borrow y20 false] [false] [(y20,none)] [] λd f k=>j8p d.1 (λb=>k [w1 y34 b .S] [] [])
theorem jlv:SO 127 jbU:=fK (np:=0) (Za6 jgb Zas) [je2] (oI 7 0 @jjA oN) false Tryz.func127 λ_ _ _ _=>by kernel_rfl
def j7M (d:qF×List qR) (b:qB) (g:List qV) (f:qW->Bool->Res):Res:=j0j d.1 b λr=>bif decide (r<0) then f [] false else bif inb r (List.length d.1) then bif inb r (List.length d.2) then j0I (nth (eS,[],[]) d.1 r) (nth [] d.2 r) g λh=>bif decide (h<0) then f [] false else bif inb r (List.length d.2) then bif inb h (List.length (nth [] d.2 r)) then j0t (nth [] (nth [] d.2 r) h) λi=>f i true else none else none else none else none
def jd9:Sig Unit:=sg [.borrow y33 true,.borrow .str false,.borrow y3 false] [true,false] [(y33,none),(.str,none),(y3,none)] [] λb g k=>j7M b.1 b.2.1 b.2.2.1 (λd f=>k [⟨y3,true,d,[.O]⟩,wB f] [] [])
theorem jmu:SO 117 jd9:=fK (np:=0) (Za6 j6x (Za6 j9A (Za6 j4j Zas))) [] oN false Tryz.func117 λ_ _ _ _=>by delta j7M j0N j3O j4z;refine gz j0j λ_ b=>gz j0I λ_ d=>gz j0t λ_ f=> ?_;rewrite [<-b,<-d,<-f];kernel_rfl
theorem jej:FS [(104,ja5),(109,jaW),(117,jd9),(127,jbU),(128,j2o)]:=(Za6 jcE (Za6 jkd (Za6 jmu (Za6 jlv (Za6 j7c Zas)))))
def j7g (d:Bool) (b:Int×qW×Bool) (r:List qV) (f:Bool->Res):Res:=bif !(d==b.2.2) then f true else j0Z r b.2.1 λg=>f (!g)
def j8J:Z1d Unit:=Nd 63 63 [.S 1,.R 2 y3 .S,.R 7 y26 .O,.R 8 y21 .O,.t 9 (pB 9),.I 10,.t 12 (pB 12),.B 13,.R 23 y34 .S,.I 24,.I 25] [(9,y25,[.N]),(12,y3,[.O])] λb d g=>j7g b.2.2.2.2.2.1 d.1.2 d.2.1.2 (λf=>g .normal [(1,vS b.1),(2,v1 y3 b.2.1 .S),(7,v1 y26 b.2.2.1 .O),(8,v1 y21 b.2.2.2.1 .O),(9,pB 9),(10,vI b.2.2.2.2.1),(12,pB 12),(13,vB b.2.2.2.2.2.1),(23,v1 y34 b.2.2.2.2.2.2.1 .S),(24,vI b.2.2.2.2.2.2.2.1),(25,vI b.2.2.2.2.2.2.2.2.1),(49,vB f)] [(9,⟨y25,d.1.1,d.1.2,[.N]⟩),(12,⟨y3,d.2.1.1,d.2.1.2,[.O]⟩)])
theorem jlV:CN 0 129638 Tryz.f60 j8J:=nK jej [] oN ([1,2,7,8,9,10,12,13,23,24,25,49],[9,12]) [] ([],[]) λ_ _ _=>by kernel_rfl
def j3j (g:qB) (j:List qV) (b:List Int) (h:List qD) (l:Int) (f:List (Int×qW×Bool)) (d:Int) (i:Int×qW×Bool) (rec:(List (Int×qW×Bool))->Int->(Int×qW×Bool)->Res) (m:(List (Int×qW×Bool))->Res):Res:=bif decide (d<l) then bif inb d (List.length h) then j7M (nth ([],[]) h d) g j λr k=>j7g k i r λt=>bif t then bif inb d (List.length b) then bif lim ((List.length f)+1) then rec (f++[(nth 0 b d,r,k)]) (Z9K (d+1)) (nth 0 b d,r,k) else none else none else rec f (Z9K (d+1)) i else none else m f
def j5n (d:qB) (f:List qV) (b:List Int) (h:List qD) (i:Int):((List (Int×qW×Bool))×Int×(Int×qW×Bool))->((List (Int×qW×Bool))×Int×(Int×qW×Bool)->Res)->(((List (Int×qW×Bool))->Res))->Res:=λv rec q=>j3j d f b h i v.1 v.2.1 v.2.2 (λg j k=>rec (g,j,k)) q
def j9K (d:qB) (f:List qV) (b:List Int) (h:List qD) (i:Int) (n:Nat) (g:List (Int×qW×Bool)) (j:Int) (k:Int×qW×Bool) (l:(List (Int×qW×Bool))->Res):Res:=Z1f (j5n d f b h i) n (g,j,k) (l)
def jc5:Z1d Unit:=λσ k=>rdN σ 63<|rdS σ 1 λd=>rd1 σ 2 y3 .S λg=>rd1 σ 7 y26 .O λh=>rd1 σ 8 y21 .O λb=>rdT σ 9 (pB 9)<|rd1 σ 23 y34 .S λi=>rdI σ 24 λj=>rdI σ 25 λl=>rdB σ 9 y25 [.N] λa m=>j9K d g b i j Z1c h l m (λf=>k (.exit 0) (mkS 63 63 [(7,v1 y26 f .O)] []))
def jc9:Z1d Unit:=λσ k=>jc5 (σ.wk [] [(9,[.N])]) k
theorem jlU:CN 0 506 Tryz.f60 jc9:=λr=>ZaJ [] [(9,[.N])] (jjr follows j1x jej r [j8J] (oI 230 0 @jlV oN) [1,2,7,8,9,23,24,25] [9] ([],[]) [(0,[7],[])] ([],[]) (y:=jc5) λσ k _ h=>rN h λI h=>rV h λd D h=>rV h λf E h=>rV h λw F h=>rV h λb G h=>rT h λH h=>rV h λi l h=>rV h λj n h=>rV h λz p h=>rB h λa A q h=>⟨_,ZaM (m:=63) I (sC D (sC E (sC F (sC G (sC H (sC l (sC n (sC p sN)))))))) (bC q bN),.trans (Z9u (λv:(List (Int×qW×Bool))×Int×(Int×qW×Bool)=>(mkS 63 63 [(1,vS d),(2,v1 y3 f .S),(7,v1 y26 v.1 .O),(8,v1 y21 b .O),(9,pB 9),(23,v1 y34 i .S),(24,vI j),(25,vI v.2.1)] [(9,⟨y25,a,v.2.2,[.N]⟩)])) (j5n d f b i j) (λ(k:Z83 Unit)=>(((λg=>k (.exit 0) (mkS 63 63 [(7,v1 y26 g .O)] []))):((List (Int×qW×Bool))->Res))) (λv rec k=>by delta j5n j3j jd9 j8J;refine gz j7M λ_ B=>gz j7g λ_ C=> ?_;rewrite [<-B,<-C];kernel_rfl) Z1c (w,z,A) k) h⟩)
def jbv (l:List qP) (b:qB) (d:List qV) (g:(List (Int×qW×Bool))->Res):Res:=j6c l λr=>bif !r then g [] else j5l l λi=>j8p l λh=>j9K b d i h (nI (List.length h)) Z1c [] 0 (0,[],false) λf=>g f
def job:Sig Unit:=sg [.borrow y20 false,.borrow .str false,.borrow y3 false] [false] [(y20,none),(.str,none),(y3,none)] [] λb f k=>jbv b.1 b.2.1 b.2.2.1 (λd=>k [w1 y26 d .O] [] [])
theorem jnO:SO 60 job:=fK (np:=0) jej [j8J,jc9] (oI 506 1 @jlU oN) false Tryz.func60 λ_ _ _ _=>by delta jbv ja5 jaW jbU jc9;delta jc5 j9K;refine gz j6c λ_ b=>gz j5l λ_ d=>gz j8p λ_ f=>gz j5n λ_ g=> ?_;rewrite [<-b,<-d,<-f,<-g];kernel_rfl
def jbu (l:List qP) (b:qB) (d:List qV) (f:Int->Res):Res:=jbv l b d λr=>bif decide ((nI (List.length r))>0) then bif inb 0 (List.length r) then f (nth (0,[],false) r 0).1 else none else f 0
def ji0:Sig Unit:=sg [.look y20 false,.look .str false,.look y3 false] [false] [(y20,none),(.str,none),(y3,none)] [] λb f k=>jbu b.1 b.2.1 b.2.2.1 (λd=>k [wI d] [] [])
theorem jnM:SO 40 ji0:=fK (np:=0) (Za6 jnO Zas) [] oN false Tryz.func40 λ_ _ _ _=>by kernel_rfl
end
end Go.PI.G
namespace Go.PI.G
noncomputable section
open Go Go.PI Go.Proofs
open Go.Code (pl pr)
def j9U (a:Int×Int×qB) (left:Int) (b:Int->Res):Res:=bif decide ((Z9K (left-(nI (ByteArray.size a.2.2))))<0) then b (-1) else b (Z9K (left-(nI (ByteArray.size a.2.2))))
def jno:Sig Unit:=sg [.look y2 true,.look tI false] [false] [(y2,none),(tI,none)] [] λb f k=>j9U b.1 b.2.1 (λd=>k [wI d] [] [])
theorem jcI:SO 105 jno:=fK (np:=0) Zas [] oN false Tryz.func105 λ_ _ _ _=>by kernel_rfl
def j9W (a:Int×Int×qB) (b:qV->Res):Res:=b (a.1,a.2.1,a.2.2)
def jnr:Sig Unit:=sg [.look y2 true] [true] [(y2,none)] [] λd f k=>j9W d.1 (λb=>k [⟨y2,true,b,[]⟩] [] [])
theorem jcJ:SO 106 jnr:=fK (np:=0) Zas [] oN false Tryz.func106 λ_ _ _ _=>by kernel_rfl
def j9S (a:Int×Int×qB) (b:Int×Int×qB) (d:Bool->Res):Res:=bif (a.1 != b.1) then d false else bif (a.2.1 != b.2.1) then d false else bif sNe a.2.2 b.2.2 then d false else d true
def jnl:Sig Unit:=sg [.look y2 true,.look y2 true] [false] [(y2,none),(y2,none)] [] λb f k=>j9S b.1 b.2.1 (λd=>k [wB d] [] [])
theorem jcH:SO 107 jnl:=fK (np:=0) Zas [] oN false Tryz.func107 λ_ _ _ _=>by kernel_rfl
end
end Go.PI.G
namespace Go.PI.G
noncomputable section
open Go Go.PI Go.Proofs
open Go.Code (pl pr)
def jcp (a:qB×Int×Bool×Bool×Int×Int×qB) (left:Int) (b:Int->Res):Res:=bif decide ((Z9K (left-(nI (ByteArray.size a.1))))<0) then b (-1) else j9U a.2.2.2.2 (Z9K (left-(nI (ByteArray.size a.1)))) λr=>bif decide (r<0) then b (-1) else b r
def jnm:Sig Unit:=sg [.look y7 true,.look tI false] [false] [(y7,none),(tI,none)] [] λb f k=>jcp b.1 b.2.1 (λd=>k [wI d] [] [])
theorem jgP:SO 285 jnm:=fK (np:=0) (Za6 jcI Zas) [] oN false Tryz.func285 λ_ _ _ _=>by kernel_rfl
def jcr (a:qB×Int×Bool×Bool×Int×Int×qB) (b:qC->Res):Res:=j9W a.2.2.2.2 λr=>b (a.1,a.2.1,a.2.2.1,a.2.2.2.1,r)
def jnp:Sig Unit:=sg [.look y7 true] [true] [(y7,none)] [] λd f k=>jcr d.1 (λb=>k [⟨y7,true,b,[]⟩] [] [])
theorem jgR:SO 292 jnp:=fK (np:=0) (Za6 jcJ Zas) [] oN false Tryz.func292 λ_ _ _ _=>by kernel_rfl
def jcn (a:qB×Int×Bool×Bool×Int×Int×qB) (b:qB×Int×Bool×Bool×Int×Int×qB) (d:Bool->Res):Res:=bif sNe a.1 b.1 then d false else bif (a.2.1 != b.2.1) then d false else bif !(a.2.2.1==b.2.2.1) then d false else bif !(a.2.2.2.1==b.2.2.2.1) then d false else j9S a.2.2.2.2 b.2.2.2.2 λr=>bif !r then d false else d true
def jnj:Sig Unit:=sg [.look y7 true,.look y7 true] [false] [(y7,none),(y7,none)] [] λb f k=>jcn b.1 b.2.1 (λd=>k [wB d] [] [])
theorem jgN:SO 302 jnj:=fK (np:=0) (Za6 jcH Zas) [] oN false Tryz.func302 λ_ _ _ _=>by kernel_rfl
end
end Go.PI.G
namespace Go.PI.G
open Go Go.PI Go.Proofs
open Go.Code (pl pr)
end Go.PI.G
namespace Go.PI.G
noncomputable section
open Go Go.PI Go.Proofs
open Go.Code (pl pr)
def j3H (a:List qC) (left:Int) (i:Int) (rec:Int->Int->Res) (b:Int->Res) (d:Unit->Res):Res:=bif decide (i<(nI (List.length a))) then bif inb i (List.length a) then jcp (nth (eS,0,false,false,0,0,eS) a i) left λr=>bif decide (r<0) then d () else rec r (Z9K (i+1)) else none else b left
def jd0 (a:List qC):(Int×Int)->(Int×Int->Res)->((Int->Res)×(Unit->Res))->Res:=λv rec q=>j3H a v.1 v.2 (λleft i=>rec (left,i)) q.1 q.2
def jaS (a:List qC) (n:Nat) (left:Int) (i:Int) (b:Int->Res) (d:Unit->Res):Res:=Z1f (jd0 a) n (left,i) (b,d)
def je7:Z1d Unit:=NdL 27 27 [.R 0 y8 .S,.I 1,.I 5] [] (λd f=>(d.2.1,d.2.2.1)) (λd v=>(d.1,v.1,v.2,())) (λf v=>()) (λd f=>jd0 d.1) λd f g=>((λb=>g (.exit 0) [(1,vI b)] []),(λ_=>g .ret [(4,vI (-1))] []))
theorem jjI:CN 0 122 Tryz.f241 je7:=lK (Za6 jgP Zas) [] oN ([],[]) [(0,[1],[])] ([4],[]) λ_ _ _ _ _=>by kernel_rfl
def j8t (a:List qC) (left:Int) (d:Int->Res):Res:=bif decide ((Z9K (left-(nI (List.length a))))<0) then d (-1) else jaS a Z1c (Z9K (left-(nI (List.length a)))) 0 (λb=>d b) (λ_=>d (-1))
def jgl:Sig Unit:=sg [.look y8 false,.look tI false] [false] [(y8,none),(tI,none)] [] λb f k=>j8t b.1 b.2.1 (λd=>k [wI d] [] [])
theorem jlz:SO 241 jgl:=fK (np:=0) (Za6 jgP Zas) [je7] (oI 122 0 @jjI oN) false Tryz.func241 λ_ _ _ _=>by kernel_rfl
def j3K (a:List qC) (b:List qC) (i:Int) (rec:qE->Int->Res) (d:qE->Res):Res:=bif decide (i<(nI (List.length a))) then bif inb i (List.length a) then jcr (nth (eS,0,false,false,0,0,eS) a i) λr=>bif inb i (List.length b) then rec (upd b i r) (Z9K (i+1)) else none else none else d b
def j8V (a:List qC):(qE×Int)->(qE×Int->Res)->((qE->Res))->Res:=λv rec q=>j3K a v.1 v.2 (λb i=>rec (b,i)) q
def jku (a:List qC) (n:Nat) (b:List qC) (i:Int) (d:qE->Res):Res:=Z1f (j8V a) n (b,i) (d)
def jea:Z1d Unit:=NdL 23 23 [.R 0 y8 .S,.R 3 y8 .O,.I 4] [] (λb f=>(b.2.1,b.2.2.1)) (λb v=>(b.1,v.1,v.2,())) (λf v=>()) (λb f=>j8V b.1) λb f g=>((λd=>g (.exit 0) [(3,v1 y8 d .O)] []))
theorem jjL:CN 0 58 Tryz.f249 jea:=lK (Za6 jgR Zas) [] oN ([],[]) [(0,[3],[])] ([],[]) λ_ _ _ _ _=>by kernel_rfl
def j8w (a:List qC) (d:qE->Res):Res:=bif Z9I (nI (List.length a)) (nI (List.length a)) then jku a Z1c (Z9h (nI (List.length a)) (eS,0,false,false,0,0,eS)) 0 λb=>d b else none
def jgn:Sig Unit:=sg [.borrow y8 false] [false] [(y8,none)] [] λd f k=>j8w d.1 (λb=>k [w1 y8 b .O] [] [])
theorem jlC:SO 249 jgn:=fK (np:=0) (Za6 jgR Zas) [jea] (oI 58 0 @jjL oN) false Tryz.func249 λ_ _ _ _=>by kernel_rfl
def j3E (a:List qC) (b:List qC) (i:Int) (rec:Int->Res) (d:Unit->Res) (f:Unit->Res):Res:=bif decide (i<(nI (List.length a))) then bif inb i (List.length a) then bif inb i (List.length b) then jcn (nth (eS,0,false,false,0,0,eS) a i) (nth (eS,0,false,false,0,0,eS) b i) λr=>bif !r then f () else rec (Z9K (i+1)) else none else none else d ()
def jcX (a:List qC) (b:List qC):Int->(Int->Res)->((Unit->Res)×(Unit->Res))->Res:=λv rec q=>j3E a b v (λi=>rec (i)) q.1 q.2
def jfb (a:List qC) (b:List qC) (n:Nat) (i:Int) (d:Unit->Res) (f:Unit->Res):Res:=Z1f (jcX a b) n (i) (d,f)
def je4:Z1d Unit:=NdL 27 27 [.R 0 y8 .S,.R 1 y8 .S,.I 5] [] (λb d=>(b.2.2.1)) (λb v=>(b.1,b.2.1,v,())) (λd v=>()) (λb d=>jcX b.1 b.2.1) λb d f=>((λ_=>f (.exit 0) [] []),(λ_=>f .ret [(4,vB false)] []))
theorem jjF:CN 0 58 Tryz.f258 je4:=lK (Za6 jgN Zas) [] oN ([],[]) [(0,[],[])] ([4],[]) λ_ _ _ _ _=>by kernel_rfl
def j8q (a:List qC) (b:List qC) (d:Bool->Res):Res:=bif ((nI (List.length a)) != (nI (List.length b))) then d false else jfb a b Z1c 0 (λ_=>d true) (λ_=>d false)
def jgj:Sig Unit:=sg [.look y8 false,.look y8 false] [false] [(y8,none),(y8,none)] [] λb f k=>j8q b.1 b.2.1 (λd=>k [wB d] [] [])
theorem jlw:SO 258 jgj:=fK (np:=0) (Za6 jgN Zas) [je4] (oI 58 0 @jjF oN) false Tryz.func258 λ_ _ _ _=>by kernel_rfl
end
end Go.PI.G
namespace Go.PI.G
noncomputable section
open Go Go.PI Go.Proofs
open Go.Code (pl pr)
def j1Z (a:qL) (left:Int) (i:Int) (rec:Int->Int->Res) (b:Int->Res) (d:Unit->Res):Res:=bif decide (i<(nI (List.length a))) then bif inb i (List.length a) then bif decide ((Z9K (left-(nI (ByteArray.size (nth eS a i)))))<0) then d () else rec (Z9K (left-(nI (ByteArray.size (nth eS a i))))) (Z9K (i+1)) else none else b left
def jaA (a:qL):(Int×Int)->(Int×Int->Res)->((Int->Res)×(Unit->Res))->Res:=λv rec q=>j1Z a v.1 v.2 (λleft i=>rec (left,i)) q.1 q.2
def j89 (a:qL) (n:Nat) (left:Int) (i:Int) (b:Int->Res) (d:Unit->Res):Res:=Z1f (jaA a) n (left,i) (b,d)
def jbF:Z1d Unit:=NdL 28 28 [.R 0 y0 .S,.I 1,.I 5] [] (λd f=>(d.2.1,d.2.2.1)) (λd v=>(d.1,v.1,v.2,())) (λf v=>()) (λd f=>jaA d.1) λd f g=>((λb=>g (.exit 0) [(1,vI b)] []),(λ_=>g .ret [(4,vI (-1))] []))
theorem jh8:CN 0 122 Tryz.f82 jbF:=lK Zas [] oN ([],[]) [(0,[1],[])] ([4],[]) λ_ _ _ _ _=>by kernel_rfl
def j5w (a:qL) (left:Int) (d:Int->Res):Res:=bif decide ((Z9K (left-(nI (List.length a))))<0) then d (-1) else j89 a Z1c (Z9K (left-(nI (List.length a)))) 0 (λb=>d b) (λ_=>d (-1))
def jdb:Sig Unit:=sg [.look y0 false,.look tI false] [false] [(y0,none),(tI,none)] [] λb f k=>j5w b.1 b.2.1 (λd=>k [wI d] [] [])
theorem jih:SO 82 jdb:=fK (np:=0) Zas [jbF] (oI 122 0 @jh8 oN) false Tryz.func82 λ_ _ _ _=>by kernel_rfl
def j20 (a:qL) (b:qL) (i:Int) (rec:qL->Int->Res) (d:qL->Res):Res:=bif decide (i<(nI (List.length a))) then bif inb i (List.length a) then bif inb i (List.length b) then rec (upd b i (nth eS a i)) (Z9K (i+1)) else none else none else d b
def j6Q (a:qL):(qL×Int)->(qL×Int->Res)->((qL->Res))->Res:=λv rec q=>j20 a v.1 v.2 (λb i=>rec (b,i)) q
def jhH (a:qL) (n:Nat) (b:qL) (i:Int) (d:qL->Res):Res:=Z1f (j6Q a) n (b,i) (d)
def jbG:Z1d Unit:=NdL 22 22 [.R 0 y0 .S,.R 3 y0 .O,.I 4] [] (λb f=>(b.2.1,b.2.2.1)) (λb v=>(b.1,v.1,v.2,())) (λf v=>()) (λb f=>j6Q b.1) λb f g=>((λd=>g (.exit 0) [(3,v1 y0 d .O)] []))
theorem jh9:CN 0 58 Tryz.f88 jbG:=lK Zas [] oN ([],[]) [(0,[3],[])] ([],[]) λ_ _ _ _ _=>by kernel_rfl
def j5x (a:qL) (d:qL->Res):Res:=bif Z9I (nI (List.length a)) (nI (List.length a)) then jhH a Z1c (Z9h (nI (List.length a)) eS) 0 λb=>d b else none
def jdc:Sig Unit:=sg [.borrow y0 false] [false] [(y0,none)] [] λd f k=>j5x d.1 (λb=>k [w1 y0 b .O] [] [])
theorem jii:SO 88 jdc:=fK (np:=0) Zas [jbG] (oI 58 0 @jh9 oN) false Tryz.func88 λ_ _ _ _=>by kernel_rfl
def j1Y (a:qL) (b:qL) (i:Int) (rec:Int->Res) (d:Unit->Res) (f:Unit->Res):Res:=bif decide (i<(nI (List.length a))) then bif inb i (List.length a) then bif inb i (List.length b) then bif sNe (nth eS a i) (nth eS b i) then f () else rec (Z9K (i+1)) else none else none else d ()
def jaz (a:qL) (b:qL):Int->(Int->Res)->((Unit->Res)×(Unit->Res))->Res:=λv rec q=>j1Y a b v (λi=>rec (i)) q.1 q.2
def jci (a:qL) (b:qL) (n:Nat) (i:Int) (d:Unit->Res) (f:Unit->Res):Res:=Z1f (jaz a b) n (i) (d,f)
def jbE:Z1d Unit:=NdL 26 26 [.R 0 y0 .S,.R 1 y0 .S,.I 5] [] (λb d=>(b.2.2.1)) (λb v=>(b.1,b.2.1,v,())) (λd v=>()) (λb d=>jaz b.1 b.2.1) λb d f=>((λ_=>f (.exit 0) [] []),(λ_=>f .ret [(4,vB false)] []))
theorem jh7:CN 0 58 Tryz.f97 jbE:=lK Zas [] oN ([],[]) [(0,[],[])] ([4],[]) λ_ _ _ _ _=>by kernel_rfl
def j5v (a:qL) (b:qL) (d:Bool->Res):Res:=bif ((nI (List.length a)) != (nI (List.length b))) then d false else jci a b Z1c 0 (λ_=>d true) (λ_=>d false)
def jda:Sig Unit:=sg [.look y0 false,.look y0 false] [false] [(y0,none),(y0,none)] [] λb f k=>j5v b.1 b.2.1 (λd=>k [wB d] [] [])
theorem jig:SO 97 jda:=fK (np:=0) Zas [jbE] (oI 58 0 @jh7 oN) false Tryz.func97 λ_ _ _ _=>by kernel_rfl
end
end Go.PI.G
namespace Go.PI.G
noncomputable section
open Go Go.PI Go.Proofs
open Go.Code (pl pr)
def j7Q (a:qG) (left:Int) (b:Int->Res):Res:=bif decide ((Z9K (left-(nI (ByteArray.size a.2.1))))<0) then b (-1) else j8t a.2.2.1 (Z9K (left-(nI (ByteArray.size a.2.1)))) λr=>bif decide (r<0) then b (-1) else j5w a.2.2.2.1 r λd=>bif decide (d<0) then b (-1) else bif decide ((Z9K (d-(nI (ByteArray.size a.2.2.2.2.1))))<0) then b (-1) else bif decide ((Z9K ((Z9K (d-(nI (ByteArray.size a.2.2.2.2.1))))-(nI (ByteArray.size a.2.2.2.2.2))))<0) then b (-1) else b (Z9K ((Z9K (d-(nI (ByteArray.size a.2.2.2.2.1))))-(nI (ByteArray.size a.2.2.2.2.2))))
def jho:Sig Unit:=sg [.look y13 true,.look tI false] [false] [(y13,none),(tI,none)] [] λb f k=>j7Q b.1 b.2.1 (λd=>k [wI d] [] [])
theorem jmy:SO 185 jho:=fK (np:=0) (Za6 jih (Za6 jlz Zas)) [] oN false Tryz.func185 λ_ _ _ _=>by delta j7Q jgl jdb;refine gz j8t λ_ b=>gz j5w λ_ d=> ?_;rewrite [<-b,<-d];kernel_rfl
def j7R (a:qG) (b:qG->Res):Res:=j8w a.2.2.1 λr=>j5x a.2.2.2.1 λd=>b (a.1,a.2.1,r,d,a.2.2.2.2.1,a.2.2.2.2.2)
def jhq:Sig Unit:=sg [.borrow y13 true] [true] [(y13,none)] [] λd f k=>j7R d.1 (λb=>k [⟨y13,true,b,[.O,.O]⟩] [] [])
theorem jmA:SO 194 jhq:=fK (np:=0) (Za6 jii (Za6 jlC Zas)) [] oN false Tryz.func194 λ_ _ _ _=>by delta j7R jgn jdc;refine gz j8w λ_ b=>gz j5x λ_ d=> ?_;rewrite [<-b,<-d];kernel_rfl
def j7P (a:qG) (b:qG) (d:Bool->Res):Res:=bif (a.1 != b.1) then d false else bif sNe a.2.1 b.2.1 then d false else j8q a.2.2.1 b.2.2.1 λr=>bif !r then d false else j5v a.2.2.2.1 b.2.2.2.1 λf=>bif !f then d false else bif sNe a.2.2.2.2.1 b.2.2.2.2.1 then d false else bif sNe a.2.2.2.2.2 b.2.2.2.2.2 then d false else d true
def jhm:Sig Unit:=sg [.look y13 true,.look y13 true] [false] [(y13,none),(y13,none)] [] λb f k=>j7P b.1 b.2.1 (λd=>k [wB d] [] [])
theorem jmw:SO 200 jhm:=fK (np:=0) (Za6 jig (Za6 jlw Zas)) [] oN false Tryz.func200 λ_ _ _ _=>by delta j7P jgj jda;refine gz j8q λ_ b=>gz j5v λ_ d=> ?_;rewrite [<-b,<-d];kernel_rfl
end
end Go.PI.G
namespace Go.PI.G
noncomputable section
open Go Go.PI Go.Proofs
open Go.Code (pl pr)
def j3J (a:List qV) (left:Int) (i:Int) (rec:Int->Int->Res) (b:Int->Res) (d:Unit->Res):Res:=bif decide (i<(nI (List.length a))) then bif inb i (List.length a) then j9U (nth (0,0,eS) a i) left λr=>bif decide (r<0) then d () else rec r (Z9K (i+1)) else none else b left
def jd2 (a:List qV):(Int×Int)->(Int×Int->Res)->((Int->Res)×(Unit->Res))->Res:=λv rec q=>j3J a v.1 v.2 (λleft i=>rec (left,i)) q.1 q.2
def jaU (a:List qV) (n:Nat) (left:Int) (i:Int) (b:Int->Res) (d:Unit->Res):Res:=Z1f (jd2 a) n (left,i) (b,d)
def je9:Z1d Unit:=NdL 27 27 [.R 0 y3 .S,.I 1,.I 5] [] (λd f=>(d.2.1,d.2.2.1)) (λd v=>(d.1,v.1,v.2,())) (λf v=>()) (λd f=>jd2 d.1) λd f g=>((λb=>g (.exit 0) [(1,vI b)] []),(λ_=>g .ret [(4,vI (-1))] []))
theorem jjK:CN 0 122 Tryz.f37 je9:=lK (Za6 jcI Zas) [] oN ([],[]) [(0,[1],[])] ([4],[]) λ_ _ _ _ _=>by kernel_rfl
def j3f (a:List qV) (left:Int) (d:Int->Res):Res:=bif decide ((Z9K (left-(nI (List.length a))))<0) then d (-1) else jaU a Z1c (Z9K (left-(nI (List.length a)))) 0 (λb=>d b) (λ_=>d (-1))
def jbW:Sig Unit:=sg [.look y3 false,.look tI false] [false] [(y3,none),(tI,none)] [] λb f k=>j3f b.1 b.2.1 (λd=>k [wI d] [] [])
theorem jbK:SO 37 jbW:=fK (np:=0) (Za6 jcI Zas) [je9] (oI 122 0 @jjK oN) false Tryz.func37 λ_ _ _ _=>by kernel_rfl
def j3M (a:List qV) (b:List qV) (i:Int) (rec:qW->Int->Res) (d:qW->Res):Res:=bif decide (i<(nI (List.length a))) then bif inb i (List.length a) then j9W (nth (0,0,eS) a i) λr=>bif inb i (List.length b) then rec (upd b i r) (Z9K (i+1)) else none else none else d b
def j8X (a:List qV):(qW×Int)->(qW×Int->Res)->((qW->Res))->Res:=λv rec q=>j3M a v.1 v.2 (λb i=>rec (b,i)) q
def jkw (a:List qV) (n:Nat) (b:List qV) (i:Int) (d:qW->Res):Res:=Z1f (j8X a) n (b,i) (d)
def jec:Z1d Unit:=NdL 23 23 [.R 0 y3 .S,.R 3 y3 .O,.I 4] [] (λb f=>(b.2.1,b.2.2.1)) (λb v=>(b.1,v.1,v.2,())) (λf v=>()) (λb f=>j8X b.1) λb f g=>((λd=>g (.exit 0) [(3,v1 y3 d .O)] []))
theorem jjN:CN 0 58 Tryz.f39 jec:=lK (Za6 jcJ Zas) [] oN ([],[]) [(0,[3],[])] ([],[]) λ_ _ _ _ _=>by kernel_rfl
def j1y (a:List qV) (d:qW->Res):Res:=bif Z9I (nI (List.length a)) (nI (List.length a)) then jkw a Z1c (Z9h (nI (List.length a)) (0,0,eS)) 0 λb=>d b else none
def jbX:Sig Unit:=sg [.borrow y3 false] [false] [(y3,none)] [] λd f k=>j1y d.1 (λb=>k [w1 y3 b .O] [] [])
theorem jbL:SO 39 jbX:=fK (np:=0) (Za6 jcJ Zas) [jec] (oI 58 0 @jjN oN) false Tryz.func39 λ_ _ _ _=>by kernel_rfl
def j3G (a:List qV) (b:List qV) (i:Int) (rec:Int->Res) (d:Unit->Res) (f:Unit->Res):Res:=bif decide (i<(nI (List.length a))) then bif inb i (List.length a) then bif inb i (List.length b) then j9S (nth (0,0,eS) a i) (nth (0,0,eS) b i) λr=>bif !r then f () else rec (Z9K (i+1)) else none else none else d ()
def jcZ (a:List qV) (b:List qV):Int->(Int->Res)->((Unit->Res)×(Unit->Res))->Res:=λv rec q=>j3G a b v (λi=>rec (i)) q.1 q.2
def jfd (a:List qV) (b:List qV) (n:Nat) (i:Int) (d:Unit->Res) (f:Unit->Res):Res:=Z1f (jcZ a b) n (i) (d,f)
def je6:Z1d Unit:=NdL 27 27 [.R 0 y3 .S,.R 1 y3 .S,.I 5] [] (λb d=>(b.2.2.1)) (λb v=>(b.1,b.2.1,v,())) (λd v=>()) (λb d=>jcZ b.1 b.2.1) λb d f=>((λ_=>f (.exit 0) [] []),(λ_=>f .ret [(4,vB false)] []))
theorem jjH:CN 0 58 Tryz.f41 je6:=lK (Za6 jcH Zas) [] oN ([],[]) [(0,[],[])] ([4],[]) λ_ _ _ _ _=>by kernel_rfl
def j3e (a:List qV) (b:List qV) (d:Bool->Res):Res:=bif ((nI (List.length a)) != (nI (List.length b))) then d false else jfd a b Z1c 0 (λ_=>d true) (λ_=>d false)
def jbV:Sig Unit:=sg [.look y3 false,.look y3 false] [false] [(y3,none),(y3,none)] [] λb f k=>j3e b.1 b.2.1 (λd=>k [wB d] [] [])
theorem jbJ:SO 41 jbV:=fK (np:=0) (Za6 jcH Zas) [je6] (oI 58 0 @jjH oN) false Tryz.func41 λ_ _ _ _=>by kernel_rfl
end
end Go.PI.G
namespace Go.PI.G
noncomputable section
open Go Go.PI Go.Proofs
open Go.Code (pl pr)
def j9T (a:List qV) (left:Int) (b:Int->Res):Res:=j3f a left λr=>bif decide (r<0) then b (-1) else b r
def jhp:Sig Unit:=sg [.look y3 true,.look tI false] [false] [(y3,none),(tI,none)] [] λb f k=>j9T b.1 b.2.1 (λd=>k [wI d] [] [])
theorem jmz:SO 184 jhp:=fK (np:=0) (Za6 jbK Zas) [] oN false Tryz.func184 λ_ _ _ _=>by kernel_rfl
def j9V (a:List qV) (b:qW->Res):Res:=j1y a λr=>b r
def jhr:Sig Unit:=sg [.borrow y3 true] [true] [(y3,none)] [] λd f k=>j9V d.1 (λb=>k [⟨y3,true,b,[.O]⟩] [] [])
theorem jmB:SO 193 jhr:=fK (np:=0) (Za6 jbL Zas) [] oN false Tryz.func193 λ_ _ _ _=>by kernel_rfl
def j9R (a:List qV) (b:List qV) (d:Bool->Res):Res:=j3e a b λr=>bif !r then d false else d true
def jhn:Sig Unit:=sg [.look y3 true,.look y3 true] [false] [(y3,none),(y3,none)] [] λb f k=>j9R b.1 b.2.1 (λd=>k [wB d] [] [])
theorem jmx:SO 50 jhn:=fK (np:=0) (Za6 jbJ Zas) [] oN false Tryz.func50 λ_ _ _ _=>by kernel_rfl
end
end Go.PI.G
namespace Go.PI.G
noncomputable section
open Go Go.PI Go.Proofs
open Go.Code (pl pr)
def j8v (a:qS) (left:Int) (b:Int->Res):Res:=bif decide ((Z9K (left-(nI (ByteArray.size a.2.1))))<0) then b (-1) else j3f a.2.2.1 (Z9K (left-(nI (ByteArray.size a.2.1)))) λr=>bif decide (r<0) then b (-1) else j9T a.2.2.2.1 r λd=>bif decide (d<0) then b (-1) else j7Q a.2.2.2.2 d λf=>bif decide (f<0) then b (-1) else b f
def jmg:Sig Unit:=sg [.look y17 true,.look tI false] [false] [(y17,none),(tI,none)] [] λb f k=>j8v b.1 b.2.1 (λd=>k [wI d] [] [])
theorem jlB:SO 132 jmg:=fK (np:=0) (Za6 jbK (Za6 jmz (Za6 jmy Zas))) [] oN false Tryz.func132 λ_ _ _ _=>by delta j8v jbW jhp jho;refine gz j3f λ_ b=>gz j9T λ_ d=>gz j7Q λ_ f=> ?_;rewrite [<-b,<-d,<-f];kernel_rfl
def j8x (a:qS) (b:qS->Res):Res:=j1y a.2.2.1 λr=>j9V a.2.2.2.1 λd=>j7R a.2.2.2.2 λf=>b (a.1,a.2.1,r,d,f)
def jmh:Sig Unit:=sg [.borrow y17 true] [true] [(y17,none)] [] λd f k=>j8x d.1 (λb=>k [⟨y17,true,b,[.O,.O,.O,.O]⟩] [] [])
theorem jlE:SO 137 jmh:=fK (np:=0) (Za6 jbL (Za6 jmB (Za6 jmA Zas))) [] oN false Tryz.func137 λ_ _ _ _=>by delta j8x jbX jhr jhq;refine gz j1y λ_ b=>gz j9V λ_ d=>gz j7R λ_ f=> ?_;rewrite [<-b,<-d,<-f];kernel_rfl
def j8s (a:qS) (b:qS) (d:Bool->Res):Res:=bif (a.1 != b.1) then d false else bif sNe a.2.1 b.2.1 then d false else j3e a.2.2.1 b.2.2.1 λr=>bif !r then d false else j9R a.2.2.2.1 b.2.2.2.1 λf=>bif !f then d false else j7P a.2.2.2.2 b.2.2.2.2 λg=>bif !g then d false else d true
def jmf:Sig Unit:=sg [.look y17 true,.look y17 true] [false] [(y17,none),(y17,none)] [] λb f k=>j8s b.1 b.2.1 (λd=>k [wB d] [] [])
theorem jly:SO 140 jmf:=fK (np:=0) (Za6 jbJ (Za6 jmx (Za6 jmw Zas))) [] oN false Tryz.func140 λ_ _ _ _=>by delta j8s jbV jhn jhm;refine gz j3e λ_ b=>gz j9R λ_ d=>gz j7P λ_ f=> ?_;rewrite [<-b,<-d,<-f];kernel_rfl
end
end Go.PI.G
namespace Go.PI.G
noncomputable section
open Go Go.PI Go.Proofs
open Go.Code (pl pr)
def jcq (a:Int×Int×qS) (left:Int) (b:Int->Res):Res:=j8v a.2.2 left λr=>bif decide (r<0) then b (-1) else b r
def jnn:Sig Unit:=sg [.look y19 true,.look tI false] [false] [(y19,none),(tI,none)] [] λb f k=>jcq b.1 b.2.1 (λd=>k [wI d] [] [])
theorem jgQ:SO 75 jnn:=fK (np:=0) (Za6 jlB Zas) [] oN false Tryz.func75 λ_ _ _ _=>by kernel_rfl
def jcs (a:Int×Int×qS) (b:qP->Res):Res:=j8x a.2.2 λr=>b (a.1,a.2.1,r)
def jnq:Sig Unit:=sg [.borrow y19 true] [true] [(y19,none)] [] λd f k=>jcs d.1 (λb=>k [⟨y19,true,b,[.O,.O,.O,.O]⟩] [] [])
theorem jgS:SO 77 jnq:=fK (np:=0) (Za6 jlE Zas) [] oN false Tryz.func77 λ_ _ _ _=>by kernel_rfl
def jco (a:Int×Int×qS) (b:Int×Int×qS) (d:Bool->Res):Res:=bif (a.1 != b.1) then d false else bif (a.2.1 != b.2.1) then d false else j8s a.2.2 b.2.2 λr=>bif !r then d false else d true
def jnk:Sig Unit:=sg [.look y19 true,.look y19 true] [false] [(y19,none),(y19,none)] [] λb f k=>jco b.1 b.2.1 (λd=>k [wB d] [] [])
theorem jgO:SO 79 jnk:=fK (np:=0) (Za6 jly Zas) [] oN false Tryz.func79 λ_ _ _ _=>by kernel_rfl
end
end Go.PI.G
namespace Go.PI.G
noncomputable section
open Go Go.PI Go.Proofs
open Go.Code (pl pr)
def j3I (a:List qP) (left:Int) (i:Int) (rec:Int->Int->Res) (b:Int->Res) (d:Unit->Res):Res:=bif decide (i<(nI (List.length a))) then bif inb i (List.length a) then jcq (nth (0,0,0,eS,[],[],0,eS,[],[],eS,eS) a i) left λr=>bif decide (r<0) then d () else rec r (Z9K (i+1)) else none else b left
def jd1 (a:List qP):(Int×Int)->(Int×Int->Res)->((Int->Res)×(Unit->Res))->Res:=λv rec q=>j3I a v.1 v.2 (λleft i=>rec (left,i)) q.1 q.2
def jaT (a:List qP) (n:Nat) (left:Int) (i:Int) (b:Int->Res) (d:Unit->Res):Res:=Z1f (jd1 a) n (left,i) (b,d)
def je8:Z1d Unit:=NdL 27 27 [.R 0 y20 .S,.I 1,.I 5] [] (λd f=>(d.2.1,d.2.2.1)) (λd v=>(d.1,v.1,v.2,())) (λf v=>()) (λd f=>jd1 d.1) λd f g=>((λb=>g (.exit 0) [(1,vI b)] []),(λ_=>g .ret [(4,vI (-1))] []))
theorem jjJ:CN 0 122 Tryz.f26 je8:=lK (Za6 jgQ Zas) [] oN ([],[]) [(0,[1],[])] ([4],[]) λ_ _ _ _ _=>by kernel_rfl
def j8u (a:List qP) (left:Int) (d:Int->Res):Res:=bif decide ((Z9K (left-(nI (List.length a))))<0) then d (-1) else jaT a Z1c (Z9K (left-(nI (List.length a)))) 0 (λb=>d b) (λ_=>d (-1))
def jgm:Sig Unit:=sg [.look y20 false,.look tI false] [false] [(y20,none),(tI,none)] [] λb f k=>j8u b.1 b.2.1 (λd=>k [wI d] [] [])
theorem jlA:SO 26 jgm:=fK (np:=0) (Za6 jgQ Zas) [je8] (oI 122 0 @jjJ oN) false Tryz.func26 λ_ _ _ _=>by kernel_rfl
def j3L (a:List qP) (b:List qP) (i:Int) (rec:(List qP)->Int->Res) (d:(List qP)->Res):Res:=bif decide (i<(nI (List.length a))) then bif inb i (List.length a) then jcs (nth (0,0,0,eS,[],[],0,eS,[],[],eS,eS) a i) λr=>bif inb i (List.length b) then rec (upd b i r) (Z9K (i+1)) else none else none else d b
def j8W (a:List qP):((List qP)×Int)->((List qP)×Int->Res)->(((List qP)->Res))->Res:=λv rec q=>j3L a v.1 v.2 (λb i=>rec (b,i)) q
def jkv (a:List qP) (n:Nat) (b:List qP) (i:Int) (d:(List qP)->Res):Res:=Z1f (j8W a) n (b,i) (d)
def jeb:Z1d Unit:=NdL 23 23 [.R 0 y20 .S,.R 3 y20 .O,.I 4] [] (λb f=>(b.2.1,b.2.2.1)) (λb v=>(b.1,v.1,v.2,())) (λf v=>()) (λb f=>j8W b.1) λb f g=>((λd=>g (.exit 0) [(3,v1 y20 d .O)] []))
theorem jjM:CN 0 58 Tryz.f28 jeb:=lK (Za6 jgS Zas) [] oN ([],[]) [(0,[3],[])] ([],[]) λ_ _ _ _ _=>by kernel_rfl
def j4S (a:List qP) (d:(List qP)->Res):Res:=bif Z9I (nI (List.length a)) (nI (List.length a)) then jkv a Z1c (Z9h (nI (List.length a)) (0,0,0,eS,[],[],0,eS,[],[],eS,eS)) 0 λb=>d b else none
def jgo:Sig Unit:=sg [.borrow y20 false] [false] [(y20,none)] [] λd f k=>j4S d.1 (λb=>k [w1 y20 b .O] [] [])
theorem jlD:SO 28 jgo:=fK (np:=0) (Za6 jgS Zas) [jeb] (oI 58 0 @jjM oN) false Tryz.func28 λ_ _ _ _=>by kernel_rfl
def j3F (a:List qP) (b:List qP) (i:Int) (rec:Int->Res) (d:Unit->Res) (f:Unit->Res):Res:=bif decide (i<(nI (List.length a))) then bif inb i (List.length a) then bif inb i (List.length b) then jco (nth (0,0,0,eS,[],[],0,eS,[],[],eS,eS) a i) (nth (0,0,0,eS,[],[],0,eS,[],[],eS,eS) b i) λr=>bif !r then f () else rec (Z9K (i+1)) else none else none else d ()
def jcY (a:List qP) (b:List qP):Int->(Int->Res)->((Unit->Res)×(Unit->Res))->Res:=λv rec q=>j3F a b v (λi=>rec (i)) q.1 q.2
def jfc (a:List qP) (b:List qP) (n:Nat) (i:Int) (d:Unit->Res) (f:Unit->Res):Res:=Z1f (jcY a b) n (i) (d,f)
def je5:Z1d Unit:=NdL 27 27 [.R 0 y20 .S,.R 1 y20 .S,.I 5] [] (λb d=>(b.2.2.1)) (λb v=>(b.1,b.2.1,v,())) (λd v=>()) (λb d=>jcY b.1 b.2.1) λb d f=>((λ_=>f (.exit 0) [] []),(λ_=>f .ret [(4,vB false)] []))
theorem jjG:CN 0 58 Tryz.f30 je5:=lK (Za6 jgO Zas) [] oN ([],[]) [(0,[],[])] ([4],[]) λ_ _ _ _ _=>by kernel_rfl
def j8r (a:List qP) (b:List qP) (d:Bool->Res):Res:=bif ((nI (List.length a)) != (nI (List.length b))) then d false else jfc a b Z1c 0 (λ_=>d true) (λ_=>d false)
def jgk:Sig Unit:=sg [.look y20 false,.look y20 false] [false] [(y20,none),(y20,none)] [] λb f k=>j8r b.1 b.2.1 (λd=>k [wB d] [] [])
theorem jlx:SO 30 jgk:=fK (np:=0) (Za6 jgO Zas) [je5] (oI 58 0 @jjG oN) false Tryz.func30 λ_ _ _ _=>by kernel_rfl
end
end Go.PI.G
namespace Go.PI.G
open Go Go.PI Go.Proofs
open Go.Code (pl pr)
noncomputable def j3D (g:List qP) (b:qB) (d:List qV) (f:Bool->Res):Res:=bif decide ((nI (ByteArray.size b))>1048576) then f true else j8u g 1048576 λr=>bif decide (r<0) then f true else j3f d r λl=>bif decide (l<0) then f true else j4S g λm=>j1y d λn=>jbz m b n λp=>j4S g λj=>j1y d λk=>jbu j b k λq=>bif (q != p) then f false else j4S g λw=>j8r j w λy=>bif !y then f false else j1y d λh=>j3e k h λi=>bif !i then f false else f true
noncomputable def j2n:Sig Unit:=⟨[.borrow y20 false,.borrow .str false,.borrow y3 false],[false],λvals ext k=>av vals y20 λf vals=>av vals .str λb vals=>av vals y3 λd vals=>nl vals<|nl ext<|j3D f b d (λg=>k [wB g] [] [])⟩
theorem jgM:Z17 Tryz.prog 8 j2n:=jqV (np:=0) follows j1x (Za6 jlA (Za6 jlD (Za6 jlx (Za6 jbK (Za6 jnR (Za6 jbL (Za6 jnM (Za6 jbJ Zas)))))))) [] oN false Tryz.func8 λ_ _ k _ h=>aV h λ_ _ _ _ _ h=>aV h λ_ _ _ _ _ h=>aV h λ_ _ _ _ _ h=>nL h λ_ h=>nL h λ_ h=>by subst_vars;exact .trans (by delta j3D jgm jbW jgo jbX ji1 ji0 jgk jbV;refine gz j8u λ_ b=>gz j3f λ_ d=>gz j4S λ_ f=>gz j1y λ_ g=>gz jbz λ_ i=>gz jbu λ_ j=>gz j8r λ_ l=>gz j3e λ_ m=> ?_;rewrite [<-b,<-d,<-f,<-g,<-i,<-j,<-l,<-m];kernel_rfl) h
end Go.PI.G
namespace Go.PI.G
open Go Go.PI
abbrev V:=Int×Int×ByteArray
theorem jbr (s:ByteArray):(Z1n s).length=s.size:=by unfold Z1n;simp
theorem j09 (a b:ByteArray):sEq a b=true↔a=b:=by
 unfold sEq
 rw [beq_iff_eq]
 constructor
 ·intro h
  rw [ByteArray.ext_iff]
  have d:a.toList=a.data.toList:=by rw [ByteArray.toList_eq]
  have f:b.toList=b.data.toList:=by rw [ByteArray.toList_eq]
  rw [d,f] at h
  exact Array.toList_inj.1 h
 ·rintro rfl;rfl
def jnc (n:Int):Bool:=decide (-1099511627775<=n/\n<=1099511627775)
def j0r (v:V):Bool:=
 bif v.1==0 then (v.2.1==0)&&sEq v.2.2 eS
 else bif v.1==1 then ((v.2.1==0)||(v.2.1==1))&&sEq v.2.2 eS
 else bif v.1==2 then jnc v.2.1&&sEq v.2.2 eS
 else bif v.1==3 then (v.2.1==0)&&decide (nI v.2.2.size<=30)
 else false
theorem jpE (x:Int):decide (0<=x/\x<=1)=((x==0)||(x==1)):=by
 by_cases h:0<=x/\x<=1
 ·rw [decide_eq_true h]
  have:x=0\/x=1:=by omega
  rcases this with rfl | rfl<;>rfl
 ·rw [decide_eq_false h]
  have b:(x==0)=false:=by simp;omega
  have d:(x==1)=false:=by simp;omega
  rw [b,d];rfl
theorem jfX {v:V} (h:j0r v=true):v=(0,0,eS)\/(∃ n,(n=0\/n=1)/\v=(1,n,eS))\/(∃ n,(-1099511627775<=n/\n<=1099511627775)/\v=(2,n,eS))\/∃ s:ByteArray,s.size<=30/\v=(3,0,s):=by
 obtain ⟨t,n,s⟩:=v
 unfold j0r at h
 simp only at h
 cases d:t==0
 ·cases f:t==1
  ·cases g:t==2
   ·cases i:t==3
    ·rw [d,f,g,i] at h;cases h
    ·rw [d,f,g,i] at h
     simp only [cond_false,cond_true,Bool.and_eq_true,beq_iff_eq,decide_eq_true_eq] at h i
     obtain ⟨rfl,h⟩:=h
     subst i
     exact .inr (.inr (.inr ⟨s,by unfold nI at h;omega,rfl⟩))
   ·rw [d,f,g] at h
    simp only [cond_false,cond_true,Bool.and_eq_true,beq_iff_eq] at h g
    obtain ⟨h,b⟩:=h
    rw [j09] at b
    subst b;subst g
    exact .inr (.inr (.inl ⟨n,of_decide_eq_true h,rfl⟩))
  ·rw [d,f] at h
   simp only [cond_false,cond_true,Bool.and_eq_true,Bool.or_eq_true,beq_iff_eq] at h f
   obtain ⟨h,b⟩:=h
   rw [j09] at b
   subst b;subst f
   exact .inr (.inl ⟨n,h,rfl⟩)
 ·rw [d] at h
  simp only [cond_true,Bool.and_eq_true,beq_iff_eq] at h d
  obtain ⟨h,b⟩:=h
  rw [j09] at b
  subst b;subst d;subst h
  exact .inl rfl
theorem jpV {v:V} (h:j0r v=true):v.2.2.size<=30:=by
 rcases jfX h with rfl | ⟨n,_,rfl⟩ | ⟨n,_,rfl⟩ | ⟨s,b,rfl⟩
 ·show (0:Nat)<=30;omega
 ·show (0:Nat)<=30;omega
 ·show (0:Nat)<=30;omega
 ·exact b
def be (n:Nat):Nat->List Int
 | 0=>[]
 | s+1=>((n / 256 ^ s % 256:Nat):Int)::be n s
theorem jpd (n:Nat):(s:Nat)->(be n s).length=s
 | 0=>rfl
 | s+1=>by simp [be,jpd n s]
noncomputable def wB (v:V):List Int:=
 bif v.1==1 then [1,v.2.1]
 else bif v.1==2 then 2::(bif decide (v.2.1<0) then 1 else 0)::be v.2.1.natAbs 6
 else bif v.1==3 then 3::nI v.2.2.size::Z1n v.2.2
 else [0]
theorem jru {v:V} (h:j0r v=true):(wB v).length<=32:=by
 rcases jfX h with rfl | ⟨n,_,rfl⟩ | ⟨n,_,rfl⟩ | ⟨s,b,rfl⟩
 ·show (1:Nat)<=32;omega
 ·show (2:Nat)<=32;omega
 ·show (2::(bif decide (n<0) then 1 else 0)::be n.natAbs 6).length<=32
  simp [jpd]
 ·show (3::nI s.size::Z1n s).length<=32
  simp [jbr];omega
theorem jaJ:(l:List V)->(∀ v∈l,j0r v=true)->(l.flatMap wB).length<=32 * l.length
 | [],_=>by simp
 | v::l,h=>by
  have d:=jru (h v (by simp))
  have f:=jaJ l λv b=>h v (List.mem_cons_of_mem _ b)
  simp only [List.flatMap_cons,List.length_append,List.length_cons]
  omega
end Go.PI.G
set_option linter.unusedSimpArgs false
namespace Go.PI.G
open Go Go.PI Go.Proofs
theorem j69 (x b d:Int) (k:Bool->Res):j0i x b d k=k (decide (b<=x/\x<=d)):=by
 unfold j0i
 by_cases h:x>=b
 ·rw [decide_eq_true h,cond_true]
  congr 1
  exact decide_eq_decide.2 (by omega)
 ·rw [decide_eq_false h,cond_false]
  congr 1
  exact (decide_eq_false (by omega)).symm
end Go.PI.G
namespace Go.PI.G
open Go Go.PI Go.Proofs
theorem jpz (n:Int) (k:Bool->Res):jeD n k=k (jnc n):=j69 n _ _ k
theorem j7U (v:V) (k:Bool->Res):j1k v k=k (j0r v):=by
 unfold j1k j0r
 cases v.1==0
 ·cases v.1==1
  ·cases v.1==2
   ·cases v.1==3
    ·rfl
    ·cases v.2.1==0<;>rfl
   ·rw [cond_false,cond_false,cond_true,jpz]
    cases jnc v.2.1<;>rfl
  ·cases v.2.1==0
   ·cases v.2.1==1<;>rfl
   ·rfl
 ·cases v.2.1==0<;>rfl
theorem j7K (v:V) (k:Bool->Res):j15 v k=k (j0r v):=by
 unfold j15 j0r
 simp only [j69,jpE]
 cases v.1==0
 ·cases v.1==1
  ·cases v.1==2
   ·cases v.1==3
    ·rfl
    ·cases v.2.1==0<;>rfl
   ·rw [cond_false,cond_false,cond_true,cond_false,cond_false,cond_true]
    show (bif jnc v.2.1 then _ else _)=_
    cases jnc v.2.1<;>rfl
  ·cases v.2.1==0
   ·cases v.2.1==1<;>rfl
   ·rfl
 ·cases v.2.1==0<;>rfl
end Go.PI.G
namespace Go.PI.G
noncomputable section
open Go Go.PI
def msr:(τ:Ty)->El τ->Nat
 | .str,s=>ByteArray.size s
 | .slice e,l=>List.length (α:=El e) l+(List.map (msr e) l).sum
 | .pair a b,x=>msr a x.1+msr b x.2
 | .int _,_=>0
 | .bool,_=>0
 | .unit,_=>0
def wgt:(τ:Ty)->El τ->Nat
 | .str,_=>1
 | .slice e,l=>(List.map (wgt e) l).sum
 | .pair a b,x=>wgt a x.1+wgt b x.2
 | .int _,_=>1
 | .bool,_=>1
 | .unit,_=>0
theorem j9s {a b:Ty} {x:El (.pair a b)}:msr a x.1<=msr (.pair a b) x:=Nat.le_add_right _ _
theorem j07 {a b:Ty} {x:El (.pair a b)}:msr b x.2<=msr (.pair a b) x:=Nat.le_add_left _ _
def dgt (x:Int):ByteArray:=Z3B [wu8 (Z9K (48+x))]
def jrp (n:Nat):ByteArray:=if h:n<10 then dgt n else jrp (n / 10)++dgt ((n % 10:Nat):Int)
termination_by n
decreasing_by omega
def mT (k:Int):ByteArray:=(⟨#[109]⟩:ByteArray)++jrp k.toNat
def mk:(τ:Ty)->El τ->Int->El τ
 | .str,_,k=>mT k
 | .slice e,l,k=>mkL (wgt e) (mk e) l k
 | .pair a b,x,k=>(mk a x.1 k,mk b x.2 (k+(wgt a x.1:Int)))
 | .int .u8,_,k=>wu8 k
 | .int _,_,k=>k
 | .bool,_,k=>(Int.tmod k 3==0)
 | .unit,x,_=>x
theorem jlc (e:Ty) (l:List (El e)):msr (.slice e) l=l.length+(l.map (msr e)).sum:=rfl
theorem j0Y {e:Ty} {l:List (El e)} {n:Nat} (h:msr (.slice e) l<=n):l.length<=n:=by
 have:msr (.slice e) l=l.length+(l.map (msr e)).sum:=rfl
 omega
theorem j29 {e:Ty} {l:List (El e)} {n:Nat} (h:msr (.slice e) l<=n) {x:El e} (b:x∈l):msr e x<=n:=by
 have d:msr (.slice e) l=l.length+(l.map (msr e)).sum:=rfl
 have:=Z9H (msr e) l x b
 omega
end
end Go.PI.G
namespace Go.PI.G
open Go Go.PI
theorem jqK {left:Int} (h:0<=left):szR left 0=left:=by unfold szR;rw [if_pos (by omega)];omega
theorem jkb {left:Int} {n rest:Nat} {F:Int->Res} {k:Int->Res} (f:0<=left) (g:left<=1048576) (d:n<=maxLen) (b:(n:Int)<=left->F (left-n)=k (szR (left-n) rest)) :
  (bif decide (Z9K (left-nI n)<0) then k (-1) else F (Z9K (left-nI n)))=k (szR left (n+rest)):=by
 unfold maxLen at d
 rw [ZaH (by unfold nI;omega) (by unfold nI;omega)]
 unfold nI
 by_cases h:(n:Int)<=left
 ·rw [Za4 (by omega),cond_false,b h,Zak h]
 ·rw [Za5 (by omega),cond_true,Zal h]
theorem jfr {left:Int} {k:Int->Res} (b:0<=left):k left=k (szR left 0):=by rw [jqK b]
theorem j00 {i n:Nat} (h:i<n):inb (i:Int) n=true:=ZaK (by omega) (by omega)
theorem j01 {n:Int} (h: -9223372036854775808<=n/\n<9223372036854775808):Z9K n=n:=ZaH h.1 h.2
end Go.PI.G
namespace Go.PI.G
noncomputable section
open Go Go.PI
abbrev C:=ByteArray×Int×Bool×Bool×V
abbrev T:=ByteArray×List C×List ByteArray
abbrev DB:=List T×List (List (List V))
abbrev yV:Ty:= .pair (.int .i64) (.pair (.int .i64) .str)
abbrev yC:Ty:= .pair .str (.pair (.int .i64) (.pair .bool (.pair .bool yV)))
abbrev yT:Ty:= .pair .str (.pair (.slice yC) (.slice .str))
abbrev yDB:Ty:= .pair (.slice yT) (.slice (.slice (.slice yV)))
abbrev zV:V:=(0,0,eS)
abbrev zC:C:=(eS,0,false,false,0,0,eS)
abbrev zT:T:=(eS,[],[])
theorem jcm {α:Type} (p:α->Bool) (l:List α): -1<=Z9F p l/\Z9F p l<(l.length:Int):=by
 unfold Z9F
 cases h:l.findIdx? p with
 | none=>simp only [];omega
 | some i=>
  have:=(List.findIdx?_eq_some_iff_findIdx_eq.1 h).1
  simp only [];omega
theorem jcl {α:Type} {f:Nat->α->Bool}:(l:List α)->(i:Nat)->Z71 f i l=false->∀ (j:Nat) (h:j<l.length),f (i+j) l[j]=false
 | [],_,_,j,h=>by simp at h
 | x::l,i,h,j,b=>by
  simp only [Z71,Bool.or_eq_false_iff] at h
  cases j with
  | zero=>simpa using h.1
  | succ j=>
   have:=jcl l (i+1) h.2 j (by simpa using b)
   rw [show i+(j+1)=i+1+j by omega]
   simpa using this
def j0p (s:ByteArray):Bool:= !((Z1n s).any λb=>decide (b<97)||decide (b>122))&&(decide (1<=s.size)&&decide (s.size<=8))
def veq (a b:V):Bool:=(a.1==b.1)&&((a.2.1==b.2.1)&&sEq a.2.2 b.2.2)
theorem jcC (a b:V):veq a b=true↔a=b:=by
 obtain ⟨d,f,g⟩:=a
 obtain ⟨h,i,j⟩:=b
 unfold veq
 simp only [Bool.and_eq_true,beq_iff_eq,j09,Prod.mk.injEq]
def vlt (a b:V):Bool:=j0r a&&(j0r b&&(bif a.1 != b.1 then decide (a.1<b.1) else bif a.2.1 != b.2.1 then decide (a.2.1<b.2.1) else sLt a.2.2 b.2.2))
def jhE (v:V):Bool:=(v.1==0)&&((v.2.1==0)&&sEq v.2.2 eS)
def j12 (c:C):Bool:=j0p c.1&&(decide (1<=c.2.1/\c.2.1<=3)&&(j0r c.2.2.2.2&&(bif c.2.2.2.1 then (c.2.2.2.2.1==c.2.1)||((c.2.2.2.2.1==0)&& !c.2.2.1) else jhE c.2.2.2.2)))
def j02 (l:List C) (n:ByteArray):Int:=Z9F (λc=>sEq c.1 n) l
theorem j8n (l:List C) (n:ByteArray): -1<=j02 l n/\j02 l n<(l.length:Int):=jcm _ _
theorem jpU:j0r (0,0,eS)=true:=by
 show (((0:Int)==0)&&sEq eS eS)=true
 rw [Zah];rfl
theorem joT:jhE (0,0,eS)=true:=by
 show (((0:Int)==0)&&(((0:Int)==0)&&sEq eS eS))=true
 rw [Zah];rfl
def j1d (l:List C):Int->List ByteArray->Bool
 | _,[]=>true
 | b,k::ks=> !decide (j02 l k<=b)&&((nth zC l (j02 l k)).2.2.1&&j1d l (j02 l k) ks)
def j4l (l:List C):Bool:= !Z71 (λi c=> !j12 c||(j02 l c.1 != (i:Int))) 0 l
def j04 (t:T):Bool:=(j0p t.1&&(decide (1<=t.2.1.length)&&(decide (t.2.1.length<=8)&&decide (1<=t.2.2.length))))&&(j4l t.2.1&&j1d t.2.1 (-1) t.2.2)
def j03 (l:List T) (n:ByteArray):Int:=Z9F (λt=>sEq t.1 n) l
def j24 (c:List T):Bool:=decide (c.length<=6)&& !Z71 (λi t=> !j04 t||(decide (0<i)&&sGe (nth zT c ((i:Int)-1)).1 t.1)) 0 c
def j3w (c:C) (v:V):Bool:=j0r v&&((v.1==c.2.1)||((v.1==0)&& !c.2.2.1))
def j0q (l:List C) (r:List V):Bool:=decide (r.length=l.length)&& !Z71 (λi c=> !j3w c (nth zV r (i:Int))) 0 l
def j06 (t:T) (r:List V):List V:=t.2.2.map λk=>nth zV r (j02 t.2.1 k)
def klt:List V->List V->Bool
 | [],[]=>false
 | [],_::_=>true
 | _::_,[]=>false
 | x::xs,y::ys=>bif veq x y then klt xs ys else vlt x y
def j08 (t:T) (l:List (List V)):Bool:=j04 t&&(decide (l.length<=60)&& !Z71 (λi r=> !j0q t.2.1 r||(decide (0<i)&& !klt (j06 t (nth [] l ((i:Int)-1))) (j06 t r))) 0 l)
def dbB (d:DB):Bool:=j24 d.1&&(decide (d.2.length=d.1.length)&& !Z71 (λi t=> !j08 t (nth [] d.2 (i:Int))) 0 d.1)
theorem j1I {t:T} (h:j04 t=true):j0p t.1=true/\1<=t.2.1.length/\t.2.1.length<=8/\1<=t.2.2.length/\j4l t.2.1=true/\j1d t.2.1 (-1) t.2.2=true:=by
 unfold j04 at h
 simp only [Bool.and_eq_true,decide_eq_true_eq] at h
 exact ⟨h.1.1,h.1.2.1,h.1.2.2.1,h.1.2.2.2,h.2.1,h.2.2⟩
theorem j1e {l:List C}:(ks:List ByteArray)->(b:Int)-> -1<=b->j1d l b ks=true->∀ k∈ks,0<=j02 l k/\j02 l k<(l.length:Int)
 | [],_,_,_,k,d=>by cases d
 | q::ks,b,i,h,k,d=>by
  simp only [j1d,Bool.and_eq_true,Bool.not_eq_true',decide_eq_false_iff_not] at h
  have f:=(jcm (λc:C=>sEq c.1 q) l).2
  have g:0<=j02 l q:=by omega
  rcases List.mem_cons.1 d with rfl | d
  ·exact ⟨g,f⟩
  ·exact j1e ks (j02 l q) (by omega) h.2.2 k d
theorem jr6 {c:C} (h:j12 c=true):1<=c.2.1/\c.2.1<=3:=by
 unfold j12 at h
 simp only [Bool.and_eq_true,decide_eq_true_eq] at h
 exact h.2.1
theorem jl4 {l:List C} (h:j4l l=true) (i:Nat) (b:i<l.length):j12 l[i]=true:=by
 unfold j4l at h
 have:=jcl l 0 (by simpa using h) i b
 simp only [Bool.or_eq_false_iff,Bool.not_eq_false'] at this
 exact this.1
end
end Go.PI.G
