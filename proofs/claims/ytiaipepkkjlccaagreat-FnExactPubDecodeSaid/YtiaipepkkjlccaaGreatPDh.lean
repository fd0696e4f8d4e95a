/-
  Program's code interpreted over typed values; printed texts; plain laws. No conditions.
-/
import Derived.Test.YtiaipepkkjlccaaGreatPDd
import Derived.Test.YtiaipepkkjlccaaGreatPDe
import Derived.Test.YtiaipepkkjlccaaGreatPDg
set_option linter.unusedVariables false
set_option maxRecDepth 100000
set_option linter.unusedSimpArgs false
namespace Go.PI.G
noncomputable section
open Go Go.PI Go.Proofs
open Go.Code (pl pr)
def j4h (f:List qP)(g:Int)(d:List Int)(b:Int)(rec:(List Int)->Int->Res)(h:(List Int)->Res):Res:=bif decide (b<g) then bif inb b f.length then bif ((nth (0,0,0,eS,[],[],0,eS,[],[],eS,eS) f b).1==3) then bif lim (d.length+1) then rec (d++[Z9J (b+1)]) (Z9J (b+1)) else none else rec d (Z9J (b+1)) else none else h d
def j74 (d:List qP)(f:Int):((List Int)×Int)->((List Int)×Int->Res)->(((List Int)->Res))->Res:=λv rec q=>j4h d f v.1 v.2 (λb g=>rec (b,g)) q
def jdl (d:List qP)(f:Int)(n:Nat)(b:List Int)(g:Int)(h:(List Int)->Res):Res:=Z1e (j74 d f) n (b,g) (h)
def jcf:Z1c Unit:=NdL 28 28 [.R 3 y31 .O,.R 11 y20 .S,.I 12,.I 13] [] (λb f=>(b.1,b.2.2.2.1)) (λb v=>(v.1,b.2.1,b.2.2.1,v.2,())) (λf v=>()) (λb f=>j74 b.2.1 b.2.2.1) λb f g=>((λd=>g (.exit 0) [(3,v1 y31 d .O)] []))
theorem joh:CN 0 122 Tryz.f72 jcf:=lK (Za5 jgK Zar) [] oN ([],[]) [(0,[3],[])] ([],[]) λ_ _ _ _ _=>by kernel_rfl
def j3v (l:List qP)(d:(List Int)->Res):Res:=jaH l λr=>bif !r then d [] else jdl l (nI l.length) Z1b [] 0 λb=>d b
def j7O:Sig Unit:=sg [.borrow y20 false] [false] [(y20,none)] [] λd f k=>j3v d.1 (λb=>k [w1 y31 b .O] [] [])
theorem jjj:SO 72 j7O:=fK (np:=0) (Za5 jgK Zar) [jcf] (oI 122 0 @joh oN) false Tryz.func72 λ_ _ _ _=>by delta j3v jhp jcf jdl;refine gz jaH λ_ b=>gz j74 λ_ d=> ?_;rewrite[<-b,<-d];kernel_rfl
theorem jj5:FS [(61,j3c),(211,jeA)]:=(Za5 jeS (Za5 jqq Zar))
def j4k (f:Int)(t:qB×qE×qL)(b:qL)(d:Int)(rec:qL->Int->Res)(g:qL->Res):Res:=bif decide (d<f) then bif inb d t.2.1.length then bif lim (b.length+1) then rec (b++[(nth (eS,0,false,false,0,0,eS) t.2.1 d).1]) (Z9J (d+1)) else none else none else g b
def j76 (d:Int)(t:qB×qE×qL):(qL×Int)->(qL×Int->Res)->((qL->Res))->Res:=λv rec q=>j4k d t v.1 v.2 (λb f=>rec (b,f)) q
def j9C (d:Int)(t:qB×qE×qL)(n:Nat)(b:qL)(f:Int)(g:qL->Res):Res:=Z1e (j76 d t) n (b,f) (g)
def jch:Z1c Unit:=NdL 44 44 [.t 6 (pB 6),.R 8 y8 .O,.t 27 (.ref ⟨true,6,[.snd,.fst]⟩ false),.I 28,.I 29] [(6,y22,[.O,.O])] (λf b=>(f.1,f.2.2.1)) (λf v=>(v.1,f.2.1,v.2,())) (λb v=>((b.1.1,b.1.2),())) (λf b=>j76 f.2.1 b.1.2) λf b g=>((λd=>g (.exit 0) [(6,pB 6),(8,v1 y8 d .O)] [(6,⟨y22,b.1.1,b.1.2,[.O,.O]⟩)]))
theorem jok:CN 0 250 Tryz.f166 jch:=lK jj5 [] oN ([],[]) [(0,[6,8],[6])] ([],[]) λ_ _ _ _ _=>by kernel_rfl
def jab (d:qF×List qR)(b:qB)(g:qL->qL->Res):Res:=jac d.1 b λr h=>bif !h then g [] [] else j2L d λi=>bif !i then g [] [] else j9C (nI r.2.1.length) r Z1b [] 0 λf=>bif lim (0+r.2.2.length) then g f r.2.2 else none
def jjM:Sig Unit:=sg [.borrow y26 true,.borrow .str false] [false,false] [(y26,none),(.str,none)] [] λb g k=>jab b.1 b.2.1 (λd f=>k [w1 y8 d .O,w1 y8 f .O] [] [])
theorem jqn:SO 166 jjM:=fK (np:=0) jj5 [jch] (oI 250 0 @jok oN) false Tryz.func166 λ_ _ _ _=>by delta jab jeA j3c jch j9C;refine gz jac λ_ b=>gz j2L λ_ d=>gz j76 λ_ f=> ?_;rewrite[<-b,<-d,<-f];kernel_rfl
theorem je3:FS [(61,j3c),(122,jaE),(143,jeZ),(166,jjM)]:=(Za5 jeS (Za5 jar (Za5 jni (Za5 jqn Zar))))
def j6I (b:Bool)(d:qF×List qR)(s:qS)(p:qS×qL×qL)(f:(qS×qL×qL)->Res):Res:=bif b then jab d s.2.1 λr g=>f (p.1,r,g) else f p
def j8G:Z1c Unit:=Nd 52 52 [.t 2 (pB 2),.R 6 y39 .O,.t 8 (pB 8),.t 9 (pB 9),.R 16 y43 .S,.I 17,.I 18,.B 27] [(2,y26,[.S,.S]),(8,y17,[.S,.S,.S,.S]),(9,y38,[.O,.O,.O,.O,.O,.O])] λd b f=>j6I d.2.2.2.2.1 b.1.2 b.2.1.2 b.2.2.1.2 (λg=>f .normal [(2,pB 2),(6,v1 y39 d.1 .O),(8,pB 8),(9,pB 9),(16,v1 y43 d.2.1 .S),(17,vI d.2.2.1),(18,vI d.2.2.2.1)] [(2,⟨y26,b.1.1,b.1.2,[.S,.S]⟩),(8,⟨y17,b.2.1.1,b.2.1.2,[.S,.S,.S,.S]⟩),(9,⟨y38,b.2.2.1.1,g,[.O,.O,.O,.O,.O,.O]⟩)])
theorem jom:CN 0 62669 Tryz.f118 j8G:=nK je3 [] oN ([2,6,8,9,16,17,18],[2,8,9]) [] ([],[]) λ_ _ _=>by kernel_rfl
def j2z (f:List qS)(h:Int)(g:List (qS×qL×qL))(b:Int)(d:qF×List qR)(rec:(List (qS×qL×qL))->Int->qD->Res)(i:(List (qS×qL×qL))->Res)(j:Unit->Res):Res:=bif decide (b<h) then bif inb b f.length then j0U (nth (0,eS,[],[],0,eS,[],[],eS,eS) f b) λr=>j6I ((nth (0,eS,[],[],0,eS,[],[],eS,eS) f b).1 != 5) d (nth (0,eS,[],[],0,eS,[],[],eS,eS) f b) (r,[],[]) λp=>j6F d (nth (0,eS,[],[],0,eS,[],[],eS,eS) f b) λk l=>bif (l != 0) then j () else bif lim (g.length+1) then rec (g++[p]) (Z9J (b+1)) k else none else none else i g
def j4l (f:List qS)(g:Int):((List (qS×qL×qL))×Int×qD)->((List (qS×qL×qL))×Int×qD->Res)->(((List (qS×qL×qL))->Res)×(Unit->Res))->Res:=λv rec q=>j2z f g v.1 v.2.1 v.2.2 (λb h d=>rec (b,h,d)) q.1 q.2
def jdn (f:List qS)(g:Int)(n:Nat)(b:List (qS×qL×qL))(h:Int)(d:qF×List qR)(i:(List (qS×qL×qL))->Res)(j:Unit->Res):Res:=Z1e (j4l f g) n (b,h,d) (i,j)
def jci:Z1c Unit:=NdL 52 52 [.t 2 (pB 2),.R 6 y39 .O,.R 16 y43 .S,.I 17,.I 18] [(2,y26,[.S,.S])] (λb f=>(b.1,b.2.2.2.1,f.1.2)) (λb v=>(v.1,b.2.1,b.2.2.1,v.2.1,())) (λf v=>((f.1.1,v.2.2),())) (λb f=>j4l b.2.1 b.2.2.1) λb f g=>((λd=>g (.exit 0) [(6,v1 y39 d .O)] []),(λ_=>g .ret [(4,v1 y39 [] .O),(5,vB false)] []))
theorem jol:CN 0 122 Tryz.f118 jci:=lK je3 [j8G] (oI 461 0 @jom oN) ([],[]) [(0,[6],[])] ([4,5],[]) λ_ _ _ _ _=>by delta j4l j2z jaE j8G jeZ;refine gz j0U λ_ b=>gz j6I λ_ d=>gz j6F λ_ f=> ?_;rewrite[<-b,<-d,<-f];kernel_rfl
def j80 (d:qF×List qR)(l:List qS)(b:(List (qS×qL×qL))->Bool->Res):Res:=j2L d λr=>bif !r then b [] false else jdn l (nI l.length) Z1b [] 0 d (λf=>b f true) (λ_=>b [] false)
def jez:Sig Unit:=sg [.borrow y26 true,.borrow y43 false] [false,false] [(y26,none),(y43,none)] [] λb g k=>j80 b.1 b.2.1 (λd f=>k [w1 y39 d .O,wB f] [] [])
theorem jqo:SO 118 jez:=fK (np:=0) je3 [j8G,jci] (oI 122 1 @jol oN) false Tryz.func118 λ_ _ _ _=>by delta j80 j3c jci jdn;refine gz j2L λ_ b=>gz j4l λ_ d=> ?_;rewrite[<-b,<-d];kernel_rfl
theorem jj3:FS [(72,j7O),(97,j7R),(117,jiT),(118,jez)]:=(Za5 jjj (Za5 jjl (Za5 juk (Za5 jqo Zar))))
def j4f (place:Int)(g:List Int)(h:Int)(f:Bool)(d:Int)(b:Int×Int×List (qS×qL×qL))(rec:Bool->Int->(Int×Int×List (qS×qL×qL))->Res)(i:Bool->(Int×Int×List (qS×qL×qL))->Res):Res:=bif decide (d<h) then bif inb d g.length then bif decide ((nth 0 g d)<place) then bif ((nth 0 g d)==place) then rec true (Z9J (d+1)) (b.1,nth 0 g d,b.2.2) else rec f (Z9J (d+1)) (b.1,nth 0 g d,b.2.2) else bif ((nth 0 g d)==place) then rec true (Z9J (d+1)) b else rec f (Z9J (d+1)) b else none else i f b
def j73 (place:Int)(f:List Int)(g:Int):(Bool×Int×(Int×Int×List (qS×qL×qL)))->(Bool×Int×(Int×Int×List (qS×qL×qL))->Res)->((Bool->(Int×Int×List (qS×qL×qL))->Res))->Res:=λv rec q=>j4f place f g v.1 v.2.1 v.2.2 (λd h b=>rec (d,h,b)) q
def j9A (place:Int)(f:List Int)(g:Int)(n:Nat)(d:Bool)(h:Int)(b:Int×Int×List (qS×qL×qL))(i:Bool->(Int×Int×List (qS×qL×qL))->Res):Res:=Z1e (j73 place f g) n (d,h,b) (i)
def jcd:Z1c Unit:=NdL 57 57 [.R 0 y20 .S,.I 1,.t 4 (pB 4),.t 6 (pB 6),.B 7,.R 15 y31 .O,.I 16,.I 17] [(4,y41,[.O]),(6,y41,[.O])] (λb d=>(b.2.2.1,b.2.2.2.2.2.1,d.2.1.2)) (λb v=>(b.1,b.2.1,v.1,b.2.2.2.1,b.2.2.2.2.1,v.2.1,())) (λd v=>((d.1.1,d.1.2),(d.2.1.1,v.2.2),())) (λb d=>j73 b.2.1 b.2.2.2.1 b.2.2.2.2.1) λb d h=>((λf g=>h (.exit 0) [(0,v1 y20 b.1 .S),(1,vI b.2.1),(4,pB 4),(6,pB 6),(7,vB f)] [(4,⟨y41,d.1.1,d.1.2,[.O]⟩),(6,⟨y41,d.2.1.1,g,[.O]⟩)]))
theorem joe:CN 0 122 Tryz.f73 jcd:=lK jj3 [] oN ([],[]) [(0,[0,1,4,6,7],[4,6])] ([],[]) λ_ _ _ _ _=>by kernel_rfl
def ja8 (l:List qP)(place:Int)(f:(Int×Int×List (qS×qL×qL))->Bool->Res):Res:=j3v l λr=>j9A place r (nI r.length) Z1b false 0 (place,0,[]) λd b=>bif !d then f (0,0,[]) false else jcp l (Z9J (place-1)) λh j=>bif Z8d 0 place l.length then bif inb (Z9J (place-1)) l.length then j3y (sub l 0 place) (nth (0,0,0,eS,[],[],0,eS,[],[],eS,eS) l (Z9J (place-1))).2.1 λi=>j80 h i λg k=>Z86 (f (b.1,b.2.1,g) true) (f (b.1,b.2.1,g) true) else none else none
def jjL:Sig Unit:=sg [.borrow y20 false,.borrow tI false] [true,false] [(y20,none),(tI,none)] [] λb g k=>ja8 b.1 b.2.1 (λd f=>k [⟨y41,true,d,[.O]⟩,wB f] [] [])
theorem jqk:SO 73 jjL:=fK (np:=0) jj3 [jcd] (oI 122 0 @joe oN) false Tryz.func73 λ_ _ _ _=>by delta ja8 j7O jcd jiT j7R jez j9A;refine gz j3v λ_ b=>gz j73 λ_ d=>gz jcp λ_ f=>gz j3y λ_ g=>gz j80 λ_ h=> ?_;rewrite[<-b,<-d,<-f,<-g,<-h];kernel_rfl
theorem jkN:FS [(72,j7O),(73,jjL)]:=(Za5 jjj (Za5 jqk Zar))
def j5u (l:List qP)(f:Int)(g:List Int)(h:Int)(d:List (Int×Int×List (qS×qL×qL)))(b:Int)(rec:(List (Int×Int×List (qS×qL×qL)))->Int->Res)(i:(List (Int×Int×List (qS×qL×qL)))->Res):Res:=bif decide (b<h) then bif inb b g.length then bif decide ((nth 0 g b)>f) then ja8 l (nth 0 g b) λr j=>bif lim (d.length+1) then rec (d++[r]) (Z9J (b+1)) else none else rec d (Z9J (b+1)) else none else i d
def j8z (l:List qP)(b:Int)(f:List Int)(g:Int):((List (Int×Int×List (qS×qL×qL)))×Int)->((List (Int×Int×List (qS×qL×qL)))×Int->Res)->(((List (Int×Int×List (qS×qL×qL)))->Res))->Res:=λv rec q=>j5u l b f g v.1 v.2 (λd h=>rec (d,h)) q
def jeE (l:List qP)(b:Int)(f:List Int)(g:Int)(n:Nat)(d:List (Int×Int×List (qS×qL×qL)))(h:Int)(i:(List (Int×Int×List (qS×qL×qL)))->Res):Res:=Z1e (j8z l b f g) n (d,h) (i)
def jdI:Z1c Unit:=NdL 33 33 [.R 0 y20 .S,.I 1,.R 5 y42 .O,.R 12 y31 .O,.I 13,.I 14] [] (λb f=>(b.2.2.1,b.2.2.2.2.2.1)) (λb v=>(b.1,b.2.1,v.1,b.2.2.2.1,b.2.2.2.2.1,v.2,())) (λf v=>()) (λb f=>j8z b.1 b.2.1 b.2.2.2.1 b.2.2.2.2.1) λb f g=>((λd=>g (.exit 0) [(5,v1 y42 d .O)] []))
theorem jpE:CN 0 58 Tryz.f42 jdI:=lK jkN [] oN ([],[]) [(0,[5],[])] ([],[]) λ_ _ _ _ _=>by kernel_rfl
def j98 (l:List qP)(b:Int)(f:(List (Int×Int×List (qS×qL×qL)))->Res):Res:=j3v l λr=>jeE l b r (nI r.length) Z1b [] 0 λd=>f d
def jfz:Sig Unit:=sg [.borrow y20 false,.borrow tI false] [false] [(y20,none),(tI,none)] [] λb f k=>j98 b.1 b.2.1 (λd=>k [w1 y42 d .O] [] [])
theorem js3:SO 42 jfz:=fK (np:=0) jkN [jdI] (oI 58 0 @jpE oN) false Tryz.func42 λ_ _ _ _=>by delta j98 j7O jdI jeE;refine gz j3v λ_ b=>gz j8z λ_ d=> ?_;rewrite[<-b,<-d];kernel_rfl
def j6o (f:List qC)(h:Int)(d:qL)(b:Int)(rec:qL->Int->Res)(g:qL->Res):Res:=bif decide (b<h) then bif inb b f.length then bif lim (d.length+1) then rec (d++[(nth (eS,0,false,false,0,0,eS) f b).1]) (Z9J (b+1)) else none else none else g d
def jcJ (f:List qC)(g:Int):(qL×Int)->(qL×Int->Res)->((qL->Res))->Res:=λv rec q=>j6o f g v.1 v.2 (λb d=>rec (b,d)) q
def jl7 (g:List qC)(h:Int)(n:Nat)(b:qL)(d:Int)(f:qL->Res):Res:=Z1e (jcJ g h) n (b,d) (f)
def jk1:Z1c Unit:=NdL 21 21 [.R 3 y8 .O,.R 8 y7 .S,.I 9,.I 10] [] (λb f=>(b.1,b.2.2.2.1)) (λb v=>(v.1,b.2.1,b.2.2.1,v.2,())) (λf v=>()) (λb f=>jcJ b.2.1 b.2.2.1) λb f g=>((λd=>g (.exit 0) [(3,v1 y8 d .O)] []))
theorem jqN:CN 0 58 Tryz.f214 jk1:=lK Zar [] oN ([],[]) [(0,[3],[])] ([],[]) λ_ _ _ _ _=>by kernel_rfl
def jcI (t:qB×qE×qL)(d:qL->Res):Res:=jl7 t.2.1 (nI t.2.1.length) Z1b [] 0 λb=>d b
def jmo:Sig Unit:=sg [.borrow y22 true] [false] [(y22,none)] [] λd f k=>jcI d.1 (λb=>k [w1 y8 b .O] [] [])
theorem jsN:SO 214 jmo:=fK (np:=0) Zar [jk1] (oI 58 0 @jqN oN) false Tryz.func214 λ_ _ _ _=>by kernel_rfl
def j9W (d:qF×List qR)(b:qB)(f:qL->qL->Res):Res:=j0o d.1 b λr=>bif decide (r<0) then f [] [] else bif inb r d.1.length then bif inb r d.1.length then jcI (nth (eS,[],[]) d.1 r) λg=>j0t (nth (eS,[],[]) d.1 r).2.2 λh=>f g h else none else none
def jjK:Sig Unit:=sg [.borrow y26 true,.borrow .str false] [false,false] [(y26,none),(.str,none)] [] λb g k=>j9W b.1 b.2.1 (λd f=>k [w1 y8 d .O,w1 y8 f .O] [] [])
theorem jqh:SO 173 jjK:=fK (np:=0) (Za5 j8g (Za5 j8L (Za5 jsN Zar))) [] oN false Tryz.func173 λ_ _ _ _=>by delta j9W j0S jmo jbR;refine gz j0o λ_ b=>gz jcI λ_ d=>gz j0t λ_ f=> ?_;rewrite[<-b,<-d,<-f];kernel_rfl
theorem je0:FS [(67,jbt),(128,j2K),(154,jbu),(155,j9s),(173,jjK)]:=(Za5 jng (Za5 jbx (Za5 jnh (Za5 j9h (Za5 jqh Zar)))))
def j6i (b:Bool)(d:qF×List qR)(s:qS)(p:qS×qL×qL)(f:(qS×qL×qL)->Res):Res:=bif b then j9W d s.2.1 λr g=>f (p.1,r,g) else f p
def j8B:Z1c Unit:=Nd 55 55 [.t 2 (pB 2),.R 6 y39 .O,.t 8 (pB 8),.t 9 (pB 9),.R 16 y43 .S,.I 17,.I 18,.B 27] [(2,y26,[.S,.S]),(8,y17,[.S,.S,.S,.S]),(9,y38,[.O,.O,.O,.O,.O,.O])] λd b f=>j6i d.2.2.2.2.1 b.1.2 b.2.1.2 b.2.2.1.2 (λg=>f .normal [(2,pB 2),(6,v1 y39 d.1 .O),(8,pB 8),(9,pB 9),(16,v1 y43 d.2.1 .S),(17,vI d.2.2.1),(18,vI d.2.2.2.1)] [(2,⟨y26,b.1.1,b.1.2,[.S,.S]⟩),(8,⟨y17,b.2.1.1,b.2.1.2,[.S,.S,.S,.S]⟩),(9,⟨y38,b.2.2.1.1,g,[.O,.O,.O,.O,.O,.O]⟩)])
theorem jo1:CN 0 62669 Tryz.f127 j8B:=nK je0 [] oN ([2,6,8,9,16,17,18],[2,8,9]) [] ([],[]) λ_ _ _=>by kernel_rfl
def j2w (f:List qS)(h:Int)(g:List (qS×qL×qL))(b:Int)(d:qF×List qR)(rec:(List (qS×qL×qL))->Int->qD->Res)(j:(List (qS×qL×qL))->Res)(i:Unit->Res):Res:=bif decide (b<h) then bif inb b f.length then j1H (nth (0,eS,[],[],0,eS,[],[],eS,eS) f b) λr=>j6i ((nth (0,eS,[],[],0,eS,[],[],eS,eS) f b).1 != 5) d (nth (0,eS,[],[],0,eS,[],[],eS,eS) f b) (r,[],[]) λp=>j1i (nth (0,eS,[],[],0,eS,[],[],eS,eS) f b) λk=>bif !k then i () else j8b d (nth (0,eS,[],[],0,eS,[],[],eS,eS) f b) λl m=>bif (m != 0) then i () else bif lim (g.length+1) then rec (g++[p]) (Z9J (b+1)) l else none else none else j g
def j41 (f:List qS)(g:Int):((List (qS×qL×qL))×Int×qD)->((List (qS×qL×qL))×Int×qD->Res)->(((List (qS×qL×qL))->Res)×(Unit->Res))->Res:=λv rec q=>j2w f g v.1 v.2.1 v.2.2 (λb h d=>rec (b,h,d)) q.1 q.2
def j9k (f:List qS)(g:Int)(n:Nat)(b:List (qS×qL×qL))(h:Int)(d:qF×List qR)(i:(List (qS×qL×qL))->Res)(j:Unit->Res):Res:=Z1e (j41 f g) n (b,h,d) (i,j)
def jc8:Z1c Unit:=λσ k=>rdN σ 55<|rdT σ 2 (pB 2)<|rd1 σ 6 y39 .O λf=>rd1 σ 16 y43 .S λg=>rdI σ 17 λh=>rdI σ 18 λi=>rdB σ 2 y26 [.S,.S] λa d=>j9k g h Z1b f i d (λb=>k (.exit 0) (mkS 55 55 [(6,v1 y39 b .O)] [])) (λ_=>k .ret (mkS 55 55 [(4,v1 y39 [] .O),(5,vB false)] []))
theorem jo0:CN 0 122 Tryz.f127 jc8:=λp=>jyg follows j2e je0 p [j8B] (oI 461 0 @jo1 oN) [2,6,16,17,18] [2] ([],[]) [(0,[6],[])] ([4,5],[]) [] [(2,[.S,.S])] [] λσ k _ h=>rN h λD h=>rT h λB h=>rV h λq C h=>rV h λf i h=>rV h λg j h=>rV h λr l h=>rB h λa d n h=>⟨_,ZaL (m:=55) D (sC B (sC C (sC i (sC j (sC l sN))))) (bC n bN),.trans (Z9t (λv:(List (qS×qL×qL))×Int×qD=>(mkS 55 55 [(2,pB 2),(6,v1 y39 v.1 .O),(16,v1 y43 f .S),(17,vI g),(18,vI v.2.1)] [(2,⟨y26,a,v.2.2,[.S,.S]⟩)])) (j41 f g) (λ(k:Z82 Unit)=>(((λb=>k (.exit 0) (mkS 55 55 [(6,v1 y39 b .O)] [])),(λ_=>k .ret (mkS 55 55 [(4,v1 y39 [] .O),(5,vB false)] []))):((List (qS×qL×qL))->Res)×(Unit->Res))) (λv rec k=>by delta j41 j2w j9s j8B j2K jbu;refine gz j1H λ_ w=>gz j6i λ_ y=>gz j1i λ_ z=>gz j8b λ_ A=> ?_;rewrite[<-w,<-y,<-z,<-A];kernel_rfl) Z1b (q,r,d) k) h⟩
def j7r (d:qF×List qR)(l:List qS)(b:(List (qS×qL×qL))->Bool->Res):Res:=j8a d λr=>bif !r then b [] false else j9k l (nI l.length) Z1b [] 0 d (λf=>b f true) (λ_=>b [] false)
def jjH:Sig Unit:=sg [.borrow y26 true,.borrow y43 false] [false,false] [(y26,none),(y43,none)] [] λb g k=>j7r b.1 b.2.1 (λd f=>k [w1 y39 d .O,wB f] [] [])
theorem jqc:SO 127 jjH:=fK (np:=0) je0 [j8B,jc8] (oI 122 1 @jo0 oN) false Tryz.func127 λ_ _ _ _=>by delta j7r jbt jc8 j9k;refine gz j8a λ_ b=>gz j41 λ_ d=> ?_;rewrite[<-b,<-d];kernel_rfl
def j63 (place:Int)(b:qF×List qR)(d:List qP)(g:List (Int×Int×List (qS×qL×qL)))(f:Int)(h:Int)(i:(List qP)->(List (Int×Int×List (qS×qL×qL)))->Int->Int->Res):Res:=bif Z8d 0 place d.length then bif inb (Z9J (place-1)) d.length then j3j (sub d 0 place) (nth (0,0,0,eS,[],[],0,eS,[],[],eS,eS) d (Z9J (place-1))).2.1 λr=>j7r b r λj k=>bif lim (g.length+1) then i d (g++[(Z9J (f+place),h,j)]) f (Z9J (f+place)) else none else none else none
def jd6:Sig Unit:=sg [.borrow tI false,.borrow y26 true,.ptr y20,.ptr y42,.ptr tI,.ptr tI] [] [(tI,none),(y26,none)] [(y20,[.S]),(y42,[.O]),(tI,[]),(tI,[])] λd b k=>j63 d.1 d.2.1 b.1.2 b.2.1.2 b.2.2.1.2 b.2.2.2.1.2 (λf g h i=>k [] [] [⟨y20,b.1.1,f,[.S]⟩,⟨y42,b.2.1.1,g,[.O]⟩,⟨tI,b.2.2.1.1,h,[]⟩,⟨tI,b.2.2.2.1.1,i,[]⟩])
theorem joQ:SO 126 jd6:=fK (np:=0) (Za5 jj9 (Za5 jqc Zar)) [] oN false Tryz.func126 λ_ _ _ _=>by delta j63 jaB jjH;refine gz j3j λ_ b=>gz j7r λ_ d=> ?_;rewrite[<-b,<-d];kernel_rfl
theorem j8K:FS [(103,jhh),(104,j7J),(105,jer),(106,jaB),(107,j5X),(126,jd6)]:=(Za5 jsM (Za5 jjf (Za5 jqb (Za5 jj9 (Za5 jhI (Za5 joQ Zar))))))
def j4M (l:List qP)(i:Int)(d:qF×List qR)(r:Int×Int×qS)(b:Int->qD->Res):Res:=bif Z8d 0 i l.length then Z86 (j3j (sub l 0 i) r.2.1 λn=>Z86 (j3i d n λg h w=>Z86 (Z86 (b h g) (Z86 (b h g) (b h g))) (Z86 (Z86 (b h g) (Z86 (b h g) (b h g))) (Z86 (Z86 (b h g) (b h g)) (Z86 (Z86 (b h g) (b h g)) (b h g))))) (j3i d n λj k y=>Z86 (Z86 (b k j) (b k j)) (Z86 (Z86 (b k j) (b k j)) (b k j)))) (j3j (sub l 0 i) r.2.1 λq=>j3i d q λm f p=>Z86 (Z86 (b f m) (b f m)) (Z86 (Z86 (b f m) (b f m)) (b f m))) else none
def j3O:Z1c Unit:=Nd 84 88 [.R 1 y20 .S,.t 2 (.clos 126 [⟨true,84,[]⟩,⟨true,85,[]⟩,⟨true,86,[]⟩,⟨true,87,[]⟩]),.t 3 (pB 3),.t 6 (pB 6),.R 8 y31 .O,.R 9 y31 .O,.I 10,.t 11 (pB 11),.R 17 y20 .S,.I 18,.I 19] [(3,y26,[.S,.S]),(6,y26,[.O,.O]),(11,y19,[.S,.S,.S,.S]),(84,y20,[.S]),(85,y42,[.O]),(86,tI,[]),(87,tI,[])] λd b f=>j4M d.1 d.2.2.2.1 b.1.2 b.2.2.1.2 (λcode next=>f .normal [(1,v1 y20 d.1 .S),(2,.clos 126 [⟨true,84,[]⟩,⟨true,85,[]⟩,⟨true,86,[]⟩,⟨true,87,[]⟩]),(3,pB 3),(6,pB 6),(8,v1 y31 d.2.1 .O),(9,v1 y31 d.2.2.1 .O),(10,vI d.2.2.2.1),(11,pB 11),(12,pB 12),(13,vI code),(17,v1 y20 d.2.2.2.2.1 .S),(18,vI d.2.2.2.2.2.1),(19,vI d.2.2.2.2.2.2.1)] [(3,⟨y26,b.1.1,b.1.2,[.S,.S]⟩),(6,⟨y26,b.2.1.1,b.2.1.2,[.O,.O]⟩),(11,⟨y19,b.2.2.1.1,b.2.2.1.2,[.S,.S,.S,.S]⟩),(12,⟨y26,false,next,[.O,.O]⟩),(84,⟨y20,b.2.2.2.1.1,b.2.2.2.1.2,[.S]⟩),(85,⟨y42,b.2.2.2.2.1.1,b.2.2.2.2.1.2,[.O]⟩),(86,⟨tI,b.2.2.2.2.2.1.1,b.2.2.2.2.2.1.2,[]⟩),(87,⟨tI,b.2.2.2.2.2.2.1.1,b.2.2.2.2.2.2.1.2,[]⟩)])
theorem jpr:CN 0 478452 Tryz.f64 j3O:=nK j8K [] oN ([1,2,3,6,8,9,10,11,12,13,17,18,19],[3,6,11,12,84,85,86,87]) [] ([],[]) λ_ _ _=>by delta j4M jaB jer;refine gz j3j λ_ b=>gz j3i λ_ d=> ?_;rewrite[<-b,<-d];kernel_rfl
def j7y (l:List qP)(i:Int)(j:Bool)(d:qF×List qR)(r:Int×Int×qS)(k:List qP)(m:List (Int×Int×List (qS×qL×qL)))(n:Int)(p:Int)(q:qD->(List qP)->(List (Int×Int×List (qS×qL×qL)))->Int->Int->Res)(w:Unit->Res):Res:=bif j then j4M l i d r λcode next=>bif (code != 0) then w () else j63 (Z9J (i+1)) d k m n p λb f g h=>q next b f g h else q d k m n p
def j6Q:Z1c Unit:=λσ k=>rdN σ 84<|rd1 σ 1 y20 .S λl=>rdT σ 2 (.clos 126 [⟨true,84,[]⟩,⟨true,85,[]⟩,⟨true,86,[]⟩,⟨true,87,[]⟩])<|rdT σ 3 (pB 3)<|rdT σ 6 (pB 6)<|rd1 σ 8 y31 .O λb=>rd1 σ 9 y31 .O λf=>rdI σ 10 λi=>rdT σ 11 (pB 11)<|rd1 σ 17 y20 .S λn=>rdI σ 18 λp=>rdI σ 19 λq=>rdO σ 54 λw=>rdB σ 3 y26 [.S,.S] λa d=>rdB σ 6 y26 [.O,.O] λy J=>rdB σ 11 y19 [.S,.S,.S,.S] λH r=>rdB σ 84 y20 [.S] λz D=>rdB σ 85 y42 [.O] λA E=>rdB σ 86 tI [] λB F=>rdB σ 87 tI [] λC G=>j7y l i w d r D E F G (λI g h j m=>k .normal (mkS 84 88 [(1,v1 y20 l .S),(2,.clos 126 [⟨true,84,[]⟩,⟨true,85,[]⟩,⟨true,86,[]⟩,⟨true,87,[]⟩]),(3,pB 3),(6,pB 6),(8,v1 y31 b .O),(9,v1 y31 f .O),(11,pB 11),(17,v1 y20 n .S),(18,vI p),(19,vI q)] [(3,⟨y26,a,I,[.S,.S]⟩),(6,⟨y26,y,J,[.O,.O]⟩),(11,⟨y19,H,r,[.S,.S,.S,.S]⟩),(84,⟨y20,z,g,[.S]⟩),(85,⟨y42,A,h,[.O]⟩),(86,⟨tI,B,j,[]⟩),(87,⟨tI,C,m,[]⟩)])) (λ_=>k .ret (mkS 84 88 [(6,pB 6),(7,vB false)] [(6,⟨y26,y,([],[]),[.O,.O]⟩),(84,⟨y20,z,D,[.S]⟩),(85,⟨y42,A,E,[.O]⟩),(86,⟨tI,B,F,[]⟩),(87,⟨tI,C,G,[]⟩)]))
theorem jps:CN 0 119613 Tryz.f64 j6Q:=λD=>jwo follows j2e j8K D [j3O] (oI 4 0 @jpr oN) ([1,2,3,6,8,9,11,17,18,19],[3,6,11,84,85,86,87]) [] ([6,7],[6,84,85,86,87]) [(0,[],[(3,[.S,.S])])] λσ k _ h=>rN h λQ h=>rV h λl I h=>rT h λJ h=>rT h λK h=>rT h λL h=>rV h λE M h=>rV h λH P h=>rV h λi p h=>rT h λq h=>rV h λR w h=>rV h λT y h=>rV h λU z h=>rV h λV A h=>rB h λa d B h=>rB h λW t6 C h=>rB h λX r b h=>rB h λY F f h=>rB h λZ G g h=>rB h λa5 e2 j h=>rB h λa6 e3 n h=>⟨_,ZaL (m:=88) Q (sC I (sC J (sC K (sC L (sC M (sC P (sC p (sC q (sC w (sC y (sC z (sC A sN)))))))))))) (bC B (bC C (bC b (bC f (bC g (bC j (bC n bN))))))),.trans (by delta j7y j3O jd6;refine gz j4M λ_ F=>gz j63 λ_ G=> ?_;rewrite[<-F,<-G];kernel_rfl) h⟩
def j32 (l:List qP)(g:List qP)(p:Int)(f:List Int)(h:List Int)(b:Int)(d:qF×List qR)(i:List qP)(j:List (Int×Int×List (qS×qL×qL)))(k:Int)(m:Int)(rec:(List Int)->(List Int)->Int->qD->(List qP)->(List (Int×Int×List (qS×qL×qL)))->Int->Int->Res)(A:qD->(List qP)->(List (Int×Int×List (qS×qL×qL)))->Int->Int->Res)(n:(List qP)->(List (Int×Int×List (qS×qL×qL)))->Int->Int->Res):Res:=bif decide (b<p) then bif inb b g.length then jau (nth (0,0,0,eS,[],[],0,eS,[],[],eS,eS) g b) λr=>bif !r then n i j k m else bif ((nth (0,0,0,eS,[],[],0,eS,[],[],eS,eS) g b).1==1) then j1z h (nth (0,0,0,eS,[],[],0,eS,[],[],eS,eS) g b).2.1 λB=>bif B then n i j k m else bif lim (h.length+1) then bif lim (f.length+1) then rec (f++[(nth (0,0,0,eS,[],[],0,eS,[],[],eS,eS) g b).2.1]) (h++[(nth (0,0,0,eS,[],[],0,eS,[],[],eS,eS) g b).2.1]) (Z9J (b+1)) d i j k m else none else none else j1z f (nth (0,0,0,eS,[],[],0,eS,[],[],eS,eS) g b).2.1 λC=>bif !C then n i j k m else j7y l b ((nth (0,0,0,eS,[],[],0,eS,[],[],eS,eS) g b).1==3) d (nth (0,0,0,eS,[],[],0,eS,[],[],eS,eS) g b) i j k m (λq e w y z=>bif ((nth (0,0,0,eS,[],[],0,eS,[],[],eS,eS) g b).1 != 2) then j21 f (nth (0,0,0,eS,[],[],0,eS,[],[],eS,eS) g b) λD E=>rec D h (Z9J (b+1)) q e w y z else rec f h (Z9J (b+1)) q e w y z) (λ_=>n i j k m) else none else A d i j k m
def j8n (l:List qP)(g:List qP)(h:Int):((List Int)×(List Int)×Int×qD×(List qP)×(List (Int×Int×List (qS×qL×qL)))×Int×Int)->((List Int)×(List Int)×Int×qD×(List qP)×(List (Int×Int×List (qS×qL×qL)))×Int×Int->Res)->((qD->(List qP)->(List (Int×Int×List (qS×qL×qL)))->Int->Int->Res)×((List qP)->(List (Int×Int×List (qS×qL×qL)))->Int->Int->Res))->Res:=λv rec q=>j32 l g h v.1 v.2.1 v.2.2.1 v.2.2.2.1 v.2.2.2.2.1 v.2.2.2.2.2.1 v.2.2.2.2.2.2.1 v.2.2.2.2.2.2.2 (λb f i d j k m n=>rec (b,f,i,d,j,k,m,n)) q.1 q.2
def jjz (l:List qP)(g:List qP)(h:Int)(n:Nat)(b:List Int)(f:List Int)(i:Int)(d:qF×List qR)(j:List qP)(k:List (Int×Int×List (qS×qL×qL)))(m:Int)(p:Int)(q:qD->(List qP)->(List (Int×Int×List (qS×qL×qL)))->Int->Int->Res)(r:(List qP)->(List (Int×Int×List (qS×qL×qL)))->Int->Int->Res):Res:=Z1e (j8n l g h) n (b,f,i,d,j,k,m,p) (q,r)
def jdC:Z1c Unit:=NdL 84 88 [.R 1 y20 .S,.t 2 (.clos 126 [⟨true,84,[]⟩,⟨true,85,[]⟩,⟨true,86,[]⟩,⟨true,87,[]⟩]),.t 3 (pB 3),.t 6 (pB 6),.R 8 y31 .O,.R 9 y31 .O,.R 17 y20 .S,.I 18,.I 19] [(3,y26,[.S,.S]),(6,y26,[.O,.O]),(84,y20,[.S]),(85,y42,[.O]),(86,tI,[]),(87,tI,[])] (λd b=>(d.2.1,d.2.2.1,d.2.2.2.2.2.1,b.1.2,b.2.2.1.2,b.2.2.2.1.2,b.2.2.2.2.1.2,b.2.2.2.2.2.1.2)) (λd v=>(d.1,v.1,v.2.1,d.2.2.2.1,d.2.2.2.2.1,v.2.2.1,())) (λb v=>((b.1.1,v.2.2.2.1),(b.2.1.1,b.2.1.2),(b.2.2.1.1,v.2.2.2.2.1),(b.2.2.2.1.1,v.2.2.2.2.2.1),(b.2.2.2.2.1.1,v.2.2.2.2.2.2.1),(b.2.2.2.2.2.1.1,v.2.2.2.2.2.2.2),())) (λd b=>j8n d.1 d.2.2.2.1 d.2.2.2.2.1) λd b n=>((λp f h j l=>n (.exit 0) [(3,pB 3),(6,pB 6)] [(3,⟨y26,b.1.1,p,[.S,.S]⟩),(6,⟨y26,b.2.1.1,b.2.1.2,[.O,.O]⟩),(84,⟨y20,b.2.2.1.1,f,[.S]⟩),(85,⟨y42,b.2.2.2.1.1,h,[.O]⟩),(86,⟨tI,b.2.2.2.2.1.1,j,[]⟩),(87,⟨tI,b.2.2.2.2.2.1.1,l,[]⟩)]),(λg i k m=>n .ret [(6,pB 6),(7,vB false)] [(6,⟨y26,b.2.1.1,([],[]),[.O,.O]⟩),(84,⟨y20,b.2.2.1.1,g,[.S]⟩),(85,⟨y42,b.2.2.2.1.1,i,[.O]⟩),(86,⟨tI,b.2.2.2.2.1.1,k,[]⟩),(87,⟨tI,b.2.2.2.2.2.1.1,m,[]⟩)]))
theorem jpq:CN 0 58 Tryz.f64 jdC:=lK j8K [j3O,j6Q] (oI 1853 1 @jps oN) ([],[]) [(0,[3,6],[3,6,84,85,86,87])] ([6,7],[6,84,85,86,87]) λ_ _ _ _ _=>by delta j8n j32 jhh j7J j6Q j5X;refine gz jau λ_ b=>gz j1z λ_ d=>gz j7y λ_ f=>gz j21 λ_ g=> ?_;rewrite[<-b,<-d,<-f,<-g];kernel_rfl
def jei (l:List qP)(d:qF×List qR)(h:List qP)(i:List (Int×Int×List (qS×qL×qL)))(j:Int)(k:Int)(f:Bool->qD->(List qP)->(List (Int×Int×List (qS×qL×qL)))->Int->Int->Res):Res:=jjz l l (nI l.length) Z1b [] [] 0 d h i j k (λg e m n p=>f true g e m n p) (λq r w b=>f false ([],[]) q r w b)
def jiq:Z1c Unit:=λσ k=>rdN σ 84<|rd1 σ 1 y20 .S λl=>rdT σ 2 (.clos 126 [⟨true,84,[]⟩,⟨true,85,[]⟩,⟨true,86,[]⟩,⟨true,87,[]⟩])<|rdT σ 3 (pB 3)<|rdT σ 6 (pB 6)<|rdB σ 3 y26 [.S,.S] λa d=>rdB σ 6 y26 [.O,.O] λj B=>rdB σ 84 y20 [.S] λm r=>rdB σ 85 y42 [.O] λn w=>rdB σ 86 tI [] λp y=>rdB σ 87 tI [] λq z=>jei l d r w y z (λA i b f g h=>k .ret (mkS 84 88 [(6,pB 6),(7,vB A)] [(6,⟨y26,j,i,[.S,.S]⟩),(84,⟨y20,m,b,[.S]⟩),(85,⟨y42,n,f,[.O]⟩),(86,⟨tI,p,g,[]⟩),(87,⟨tI,q,h,[]⟩)]))
theorem jpt:CN 0 3 Tryz.f64 jiq:=λp=>jwo follows j2e j8K p [j3O,j6Q,jdC] (oI 26 2 @jpq oN) ([],[]) [] ([6,7],[6,84,85,86,87]) [(1,[],[(6,[.S,.S])])] λσ k _ h=>rN h λz h=>rV h λl q h=>rT h λr h=>rT h λw h=>rT h λy h=>rB h λa d j h=>rB h λA J n h=>rB h λB F b h=>rB h λC G f h=>rB h λD H g h=>rB h λE I i h=>⟨_,ZaL (m:=88) z (sC q (sC r (sC w (sC y sN)))) (bC j (bC n (bC b (bC f (bC g (bC i bN)))))),.trans (by kernel_rfl) h⟩
def jeX (d:qF×List qR)(l:List qP)(b:List qP)(f:List (Int×Int×List (qS×qL×qL)))(g:Int)(h:Int)(m:qD->Bool->(List qP)->(List (Int×Int×List (qS×qL×qL)))->Int->Int->Res):Res:=jei l d b f g h λt n e i j k=>m n t e i j k
def jsu:Sig Unit:=sg [.borrow y26 true,.borrow y20 false,.clos 126 [y20,y42,tI,tI]] [true,false] [(y26,none),(y20,none)] [(y20,[.S]),(y42,[.O]),(tI,[]),(tI,[])] λd b k=>jeX d.1 d.2.1 b.1.2 b.2.1.2 b.2.2.1.2 b.2.2.2.1.2 (λf g h i j l=>k [⟨y26,true,f,[.S,.S]⟩,wB g] [] [⟨y20,b.1.1,h,[.S]⟩,⟨y42,b.2.1.1,i,[.O]⟩,⟨tI,b.2.2.1.1,j,[]⟩,⟨tI,b.2.2.2.1.1,l,[]⟩])
theorem jrU:SO 64 jsu:=fK (np:=0) j8K [j3O,j6Q,jdC,jiq] (oI 3 3 @jpt oN) false Tryz.func64 λ_ _ _ _=>by kernel_rfl
def jcE (d:qF×List qR)(l:List qP)(base:Int)(b:Int)(i:(List (Int×Int×List (qS×qL×qL)))->Bool->Res):Res:=jeX d l l [] base b λr j k g h f=>i g j
def jjI:Sig Unit:=sg [.borrow y26 true,.borrow y20 false,.borrow tI false,.borrow tI false] [false,false] [(y26,none),(y20,none),(tI,none),(tI,none)] [] λb g k=>jcE b.1 b.2.1 b.2.2.1 b.2.2.2.1 (λd f=>k [w1 y42 d .O,wB f] [] [])
theorem jjb:SO 78 jjI:=fK (np:=0) (Za5 jrU Zar) [] oN false Tryz.func78 λ_ _ _ _=>by kernel_rfl
def j50 (g:Int)(f:List (Int×Int×List (qS×qL×qL)))(ok:Bool)(h:Int)(d:List (Int×Int×List (qS×qL×qL)))(b:Int)(rec:(List (Int×Int×List (qS×qL×qL)))->Int->Res)(i:(List (Int×Int×List (qS×qL×qL)))->Res):Res:=bif decide (b<h) then bif inb b f.length then bif ok then bif decide ((nth (0,0,[]) f b).1>g) then bif lim (d.length+1) then rec (d++[nth (0,0,[]) f b]) (Z9J (b+1)) else none else rec d (Z9J (b+1)) else rec d (Z9J (b+1)) else none else i d
def j8j (b:Int)(d:List (Int×Int×List (qS×qL×qL)))(ok:Bool)(g:Int):((List (Int×Int×List (qS×qL×qL)))×Int)->((List (Int×Int×List (qS×qL×qL)))×Int->Res)->(((List (Int×Int×List (qS×qL×qL)))->Res))->Res:=λv rec q=>j50 b d ok g v.1 v.2 (λf h=>rec (f,h)) q
def j7q (b:Int)(d:List (Int×Int×List (qS×qL×qL)))(ok:Bool)(g:Int)(n:Nat)(f:List (Int×Int×List (qS×qL×qL)))(h:Int)(i:(List (Int×Int×List (qS×qL×qL)))->Res):Res:=Z1e (j8j b d ok g) n (f,h) (i)
def jdt:Z1c Unit:=λσ k=>rdN σ 40<|rdI σ 1 λb=>rd1 σ 5 y42 .PN λg=>rd1 σ 6 y42 .O λf=>rdO σ 7 λok=>rdT σ 21 (.ref ⟨false,6,[]⟩ false)<|rdI σ 22 λh=>rdI σ 23 λi=>j7q b f ok h Z1b g i (λd=>k (.exit 0) (mkS 40 40 [(5,v1 y42 d .PN)] []))
def jdv:Z1c Unit:=λσ k=>jdt (σ.wk [(5,[.PN])] []) k
theorem jpj:CN 0 250 Tryz.f46 jdv:=λn=>ZaI [(5,[.PN])] [] (jph follows j2e (Za5 jjb Zar) n [] oN [1,5,6,7,21,22,23] [] ([],[]) [(0,[5],[])] ([],[]) (y:=jdt) λσ k _ h=>rN h λB h=>rV h λb r h=>rV h λp w h=>rV h λd z h=>rV h λok A h=>rT h λi h=>rV h λg j h=>rV h λq l h=>⟨_,ZaL (m:=40) B (sC r (sC w (sC z (sC A (sC i (sC j (sC l sN))))))) bN,.trans (Z9t (λv:(List (Int×Int×List (qS×qL×qL)))×Int=>(mkS 40 40 [(1,vI b),(5,v1 y42 v.1 .PN),(6,v1 y42 d .O),(7,vB ok),(21,.ref ⟨false,6,[]⟩ false),(22,vI g),(23,vI v.2)] [])) (j8j b d ok g) (λ(k:Z82 Unit)=>(((λf=>k (.exit 0) (mkS 40 40 [(5,v1 y42 f .PN)] []))):((List (Int×Int×List (qS×qL×qL)))->Res))) (λv rec k=>by kernel_rfl) Z1b (p,q) k) h⟩)
def j90 (l:List qP)(b:Int)(f:(List (Int×Int×List (qS×qL×qL)))->Res):Res:=bif decide ((nI l.length)>400) then f [] else jcE ([],[]) l 0 0 λr g=>j7q b r g (nI r.length) Z1b [] 0 λd=>f d
def jft:Sig Unit:=sg [.borrow y20 false,.borrow tI false] [false] [(y20,none),(tI,none)] [] λb f k=>j90 b.1 b.2.1 (λd=>k [w1 y42 d .S] [] [])
theorem jrQ:SO 46 jft:=fK (np:=0) (Za5 jjb Zar) [jdv] (oI 250 0 @jpj oN) true Tryz.func46 λ_ _ _ _=>by delta j90 jjI jdv;delta jdt j7q;refine gz jcE λ_ b=>gz j8j λ_ d=> ?_;rewrite[<-b,<-d];kernel_rfl
def j8P (p:qS×qL×qL)(b:(qS×qL×qL)->Res):Res:=j1H p.1 λr=>j0t p.2.1 λd=>j0t p.2.2 λf=>b (r,d,f)
def jpV:Sig Unit:=sg [.borrow y38 true] [true] [(y38,none)] [] λd f k=>j8P d.1 (λb=>k [⟨y38,true,b,[.O,.O,.O,.O,.O,.O]⟩] [] [])
theorem jhO:SO 130 jpV:=fK (np:=0) (Za5 j9h (Za5 j8g Zar)) [] oN false Tryz.func130 λ_ _ _ _=>by delta j8P j9s jbR;refine gz j1H λ_ b=>gz j0t λ_ d=> ?_;rewrite[<-b,<-d];kernel_rfl
def j2R (f:List (qS×qL×qL))(g:Int)(d:Int)(b:Int×Int×List (qS×qL×qL))(rec:Int->(Int×Int×List (qS×qL×qL))->Res)(h:(Int×Int×List (qS×qL×qL))->Res):Res:=bif decide (d<g) then bif inb d f.length then j8P (nth ((0,eS,[],[],0,eS,[],[],eS,eS),[],[]) f d) λr=>bif lim (b.2.2.length+1) then rec (Z9J (d+1)) (b.1,b.2.1,(b.2.2++[r])) else none else none else h b
def j9d (d:List (qS×qL×qL))(f:Int):(Int×(Int×Int×List (qS×qL×qL)))->(Int×(Int×Int×List (qS×qL×qL))->Res)->(((Int×Int×List (qS×qL×qL))->Res))->Res:=λv rec q=>j2R d f v.1 v.2 (λg b=>rec (g,b)) q
def jfR (d:List (qS×qL×qL))(f:Int)(n:Nat)(g:Int)(b:Int×Int×List (qS×qL×qL))(h:(Int×Int×List (qS×qL×qL))->Res):Res:=Z1e (j9d d f) n (g,b) (h)
def jfe:Z1c Unit:=NdL 27 27 [.t 2 (pB 2),.t 3 (pB 3),.R 12 y39 .S,.I 13,.I 14] [(2,y41,[.O]),(3,y41,[.O])] (λd b=>(d.2.2.1,b.2.1.2)) (λd v=>(d.1,d.2.1,v.1,())) (λb v=>((b.1.1,b.1.2),(b.2.1.1,v.2),())) (λd b=>j9d d.1 d.2.1) λd b g=>((λf=>g (.exit 0) [(2,pB 2),(3,pB 3)] [(2,⟨y41,b.1.1,b.1.2,[.O]⟩),(3,⟨y41,b.2.1.1,f,[.O]⟩)]))
theorem jlY:CN 0 58 Tryz.f80 jfe:=lK (Za5 jhO Zar) [] oN ([],[]) [(0,[2,3],[2,3])] ([],[]) λ_ _ _ _ _=>by kernel_rfl
def j7w (b:Int×Int×List (qS×qL×qL))(f:(Int×Int×List (qS×qL×qL))->Res):Res:=jfR b.2.2 (nI b.2.2.length) Z1b 0 (b.1,b.2.1,[]) λd=>f d
def jhi:Sig Unit:=sg [.borrow y41 true] [true] [(y41,none)] [] λd f k=>j7w d.1 (λb=>k [⟨y41,true,b,[.O]⟩] [] [])
theorem jnK:SO 80 jhi:=fK (np:=0) (Za5 jhO Zar) [jfe] (oI 58 0 @jlY oN) false Tryz.func80 λ_ _ _ _=>by kernel_rfl
end
end Go.PI.G
namespace Go.PI.G
noncomputable section
open Go Go.PI Go.Proofs
open Go.Code (pl pr)
def j3A (d:qL)(h:Int)(b:Int)(rec:Int->Res)(f:Unit->Res)(g:Unit->Res):Res:=bif decide (b<h) then bif inb b d.length then j0x (nth eS d b) λr=>bif !r then g () else rec (Z9J (b+1)) else none else f ()
def jae (b:qL)(d:Int):Int->(Int->Res)->((Unit->Res)×(Unit->Res))->Res:=λv rec q=>j3A b d v (λf=>rec (f)) q.1 q.2
def jht (f:qL)(g:Int)(n:Nat)(h:Int)(b:Unit->Res)(d:Unit->Res):Res:=Z1e (jae f g) n (h) (b,d)
def jg4:Z1c Unit:=NdL 18 18 [.R 0 y8 .S,.R 5 y8 .S,.I 6,.I 7] [] (λb d=>(b.2.2.2.1)) (λb v=>(b.1,b.2.1,b.2.2.1,v,())) (λd v=>()) (λb d=>jae b.2.1 b.2.2.1) λb d f=>((λ_=>f (.exit 0) [(0,v1 y8 b.1 .S)] []),(λ_=>f .ret [(2,vB false)] []))
theorem jnb:CN 0 26 Tryz.f120 jg4:=lK (Za5 j2H Zar) [] oN ([],[]) [(0,[0],[])] ([2],[]) λ_ _ _ _ _=>by kernel_rfl
def j67 (l:qL)(b:Bool->Res):Res:=jht l (nI l.length) Z1b 0 (λ_=>b (decide ((nI l.length)<=8))) (λ_=>b false)
def jdf:Sig Unit:=sg [.look y8 false] [false] [(y8,none)] [] λd f k=>j67 d.1 (λb=>k [wB b] [] [])
theorem joY:SO 120 jdf:=fK (np:=0) (Za5 j2H Zar) [jg4] (oI 26 0 @jnb oN) false Tryz.func120 λ_ _ _ _=>by kernel_rfl
theorem je2:FS [(119,j3U),(120,jdf)]:=(Za5 jfm (Za5 joY Zar))
def j6B (b:Int×Int×List (qS×qL×qL))(d:Bool->Res):Res:=bif decide (b.1<1) then d true else bif decide (b.1>400) then d true else bif decide (b.2.1<0) then d true else bif decide (b.2.1>=b.1) then d true else d (decide ((nI b.2.2.length)>60))
def j8F:Z1c Unit:=Nd 55 55 [.t 1 (pB 1)] [(1,y41,[.S])] λg d f=>j6B d.1.2 (λb=>f .normal [(1,pB 1),(30,vB b)] [(1,⟨y41,d.1.1,d.1.2,[.S]⟩)])
theorem jog:CN 0 12 Tryz.f74 j8F:=nK je2 [] oN ([1,30],[1]) [] ([],[]) λ_ _ _=>by kernel_rfl
def j2y (d:List (qS×qL×qL))(g:Int)(b:Int)(rec:Int->Res)(h:Unit->Res)(f:Unit->Res):Res:=bif decide (b<g) then bif inb b d.length then j2g (nth ((0,eS,[],[],0,eS,[],[],eS,eS),[],[]) d b).1 λr=>bif !r then f () else j67 (nth ((0,eS,[],[],0,eS,[],[],eS,eS),[],[]) d b).2.1 λi=>bif !i then f () else j67 (nth ((0,eS,[],[],0,eS,[],[],eS,eS),[],[]) d b).2.2 λj=>bif !j then f () else rec (Z9J (b+1)) else none else h ()
def j4g (b:List (qS×qL×qL))(d:Int):Int->(Int->Res)->((Unit->Res)×(Unit->Res))->Res:=λv rec q=>j2y b d v (λf=>rec (f)) q.1 q.2
def jdi (b:List (qS×qL×qL))(d:Int)(n:Nat)(f:Int)(g:Unit->Res)(h:Unit->Res):Res:=Z1e (j4g b d) n (f) (g,h)
def jce:Z1c Unit:=NdL 55 55 [.R 32 y39 .S,.I 33,.I 34] [] (λb d=>(b.2.2.1)) (λb v=>(b.1,b.2.1,v,())) (λd v=>()) (λb d=>j4g b.1 b.2.1) λb d f=>((λ_=>f (.exit 0) [] []),(λ_=>f .ret [(2,vB false)] []))
theorem jof:CN 0 58 Tryz.f74 jce:=lK je2 [j8F] oN ([],[]) [(0,[],[])] ([2],[]) λ_ _ _ _ _=>by delta j4g j2y j3U jdf;refine gz j2g λ_ b=>gz j67 λ_ d=> ?_;rewrite[<-b,<-d];kernel_rfl
def j7Y (b:Int×Int×List (qS×qL×qL))(d:Bool->Res):Res:=j6B b λt=>bif t then d false else jdi b.2.2 (nI b.2.2.length) Z1b 0 (λ_=>d true) (λ_=>d false)
def jex:Sig Unit:=sg [.look y41 true] [false] [(y41,none)] [] λd f k=>j7Y d.1 (λb=>k [wB b] [] [])
theorem jql:SO 74 jex:=fK (np:=0) je2 [j8F,jce] (oI 12 0 @jog (oI 58 1 @jof oN)) false Tryz.func74 λ_ _ _ _=>by delta j7Y j8F jce jdi;refine gz j6B λ_ b=>gz j4g λ_ d=> ?_;rewrite[<-b,<-d];kernel_rfl
def jef (s:qB)(b:Bool->Res):Res:=j0r s λr=>b (!r)
def joG:Sig Unit:=sg [.look .str false] [false] [(.str,none)] [] λd f k=>jef d.1 (λb=>k [wB b] [] [])
theorem jgw:SO 178 joG:=fK (np:=0) (Za5 j3P Zar) [] oN false Tryz.func178 λ_ _ _ _=>by kernel_rfl
def j0L (s:qL)(g:Int)(b:Int)(rec:Int->Res)(d:Unit->Res)(f:Int->Res):Res:=bif decide (b<g) then bif inb b s.length then jef (nth eS s b) λr=>bif r then f b else rec (Z9J (b+1)) else none else d ()
def j33 (s:qL)(b:Int):Int->(Int->Res)->((Unit->Res)×(Int->Res))->Res:=λv rec q=>j0L s b v (λd=>rec (d)) q.1 q.2
def j8V (s:qL)(f:Int)(n:Nat)(g:Int)(b:Unit->Res)(d:Int->Res):Res:=Z1e (j33 s f) n (g) (b,d)
def j8e:Z1c Unit:=NdL 19 19 [.R 0 y8 .S,.c 1 178 [] .unit [],.I 7,.I 8] [] (λb d=>(b.2.2.2.1)) (λb v=>(b.1,b.2.1,b.2.2.1,v,())) (λd v=>()) (λb d=>j33 b.1 b.2.2.1) λb d f=>((λ_=>f (.exit 0) [] []),(λg=>f .ret [(4,vI g)] []))
theorem jf7:CN 0 26 Tryz.f221 j8e:=lK (Za5 jgw Zar) [] oN ([],[]) [(0,[],[])] ([4],[]) λ_ _ _ _ _=>by kernel_rfl
def j5Y (s:qL)(f:Unit)(b:Int->Res):Res:=j8V s (nI s.length) Z1b 0 (λ_=>b (-1)) (λt=>b t)
def jgj:Sig Unit:=sg [.look y8 false,.rclos 178 []] [false] [(y8,none),(.unit,none)] [] λb f k=>j5Y b.1 b.2.1 (λd=>k [wI d] [] [])
theorem jg6:SO 221 jgj:=fK (np:=0) (Za5 jgw Zar) [j8e] (oI 26 0 @jf7 oN) false Tryz.func221 λ_ _ _ _=>by kernel_rfl
def j3W (s:qL)(f:Unit)(b:Bool->Res):Res:=j5Y s f λr=>b (decide (r>=0))
def jew:Sig Unit:=sg [.look y8 false,.rclos 178 []] [false] [(y8,none),(.unit,none)] [] λb f k=>j3W b.1 b.2.1 (λd=>k [wB d] [] [])
theorem je4:SO 177 jew:=fK (np:=0) (Za5 jg6 Zar) [] oN false Tryz.func177 λ_ _ _ _=>by kernel_rfl
def j62 (l:qL)(b:Bool->Res):Res:=bif decide ((nI l.length)<=8) then j3W l () λr=>b (!r) else b false
def jd5:Sig Unit:=sg [.look y8 false] [false] [(y8,none)] [] λd f k=>j62 d.1 (λb=>k [wB b] [] [])
theorem joP:SO 129 jd5:=fK (np:=0) (Za5 je4 Zar) [] oN false Tryz.func129 λ_ _ _ _=>by kernel_rfl
theorem jj0:FS [(68,j1k),(128,j2K),(129,jd5)]:=(Za5 j2G (Za5 jbx (Za5 joP Zar)))
def j2u (d:List (qS×qL×qL))(j:Int)(b:Int)(rec:Int->Res)(g:Unit->Res)(f:Unit->Res):Res:=bif decide (b<j) then bif inb b d.length then j1i (nth ((0,eS,[],[],0,eS,[],[],eS,eS),[],[]) d b).1 λr=>bif !r then f () else j62 (nth ((0,eS,[],[],0,eS,[],[],eS,eS),[],[]) d b).2.1 λh=>bif !h then f () else j62 (nth ((0,eS,[],[],0,eS,[],[],eS,eS),[],[]) d b).2.2 λi=>bif !i then f () else rec (Z9J (b+1)) else none else g ()
def j3Y (b:List (qS×qL×qL))(d:Int):Int->(Int->Res)->((Unit->Res)×(Unit->Res))->Res:=λv rec q=>j2u b d v (λf=>rec (f)) q.1 q.2
def jcA (f:List (qS×qL×qL))(g:Int)(n:Nat)(h:Int)(b:Unit->Res)(d:Unit->Res):Res:=Z1e (j3Y f g) n (h) (b,d)
def jc6:Z1c Unit:=NdL 46 46 [.t 1 (pB 1),.R 6 y39 .S,.I 7,.I 8] [(1,y41,[.S])] (λb d=>(b.2.2.1)) (λb v=>(b.1,b.2.1,v,())) (λd v=>((d.1.1,d.1.2),())) (λb d=>j3Y b.1 b.2.1) λb d f=>((λ_=>f (.exit 0) [(1,pB 1)] [(1,⟨y41,d.1.1,d.1.2,[.S]⟩)]),(λ_=>f .ret [(2,vB false)] []))
theorem jnX:CN 0 26 Tryz.f79 jc6:=lK jj0 [] oN ([],[]) [(0,[1],[1])] ([2],[]) λ_ _ _ _ _=>by delta j3Y j2u j2K jd5;refine gz j1i λ_ b=>gz j62 λ_ d=> ?_;rewrite[<-b,<-d];kernel_rfl
def j7o (b:Int×Int×List (qS×qL×qL))(d:Bool->Res):Res:=jcA b.2.2 (nI b.2.2.length) Z1b 0 (λ_=>j0d b.1 1 400 λr=>bif r then j0d b.2.1 0 (Z9J (b.1-1)) λf=>bif f then d (decide ((nI b.2.2.length)<=60)) else d false else d false) (λ_=>d false)
def jjG:Sig Unit:=sg [.look y41 true] [false] [(y41,none)] [] λd f k=>j7o d.1 (λb=>k [wB b] [] [])
theorem jqa:SO 79 jjG:=fK (np:=0) jj0 [jc6] (oI 26 0 @jnX oN) false Tryz.func79 λ_ _ _ _=>by delta j7o jc6 j1k jcA;refine gz j3Y λ_ b=>gz j0d λ_ d=> ?_;rewrite[<-b,<-d];kernel_rfl
end
end Go.PI.G
namespace Go.PI.G
noncomputable section
open Go Go.PI Go.Proofs
open Go.Code (pl pr)
def j6J (d:qL)(h:Int)(p:qL)(b:Int)(rec:Int->Res)(g:Unit->Res)(f:Unit->Res):Res:=bif decide (b<h) then bif inb b d.length then j0x (nth eS d b) λr=>bif !r then f () else bif decide (b>0) then bif inb (Z9J (b-1)) p.length then bif sGe (nth eS p (Z9J (b-1))) (nth eS d b) then f () else rec (Z9J (b+1)) else none else rec (Z9J (b+1)) else none else g ()
def jdo (b:qL)(d:Int)(p:qL):Int->(Int->Res)->((Unit->Res)×(Unit->Res))->Res:=λv rec q=>j6J b d p v (λf=>rec (f)) q.1 q.2
def jll (f:qL)(g:Int)(p:qL)(n:Nat)(h:Int)(b:Unit->Res)(d:Unit->Res):Res:=Z1e (jdo f g p) n (h) (b,d)
def jk5:Z1c Unit:=NdL 35 35 [.t 1 (pB 1),.R 6 y8 .S,.I 7,.I 8] [(1,y8,[.S])] (λb d=>(b.2.2.1)) (λb v=>(b.1,b.2.1,v,())) (λd v=>((d.1.1,d.1.2),())) (λb d=>jdo b.1 b.2.1 d.1.2) λb d f=>((λ_=>f (.exit 0) [(1,pB 1)] [(1,⟨y8,d.1.1,d.1.2,[.S]⟩)]),(λ_=>f .ret [(2,vB false)] []))
theorem jqT:CN 0 26 Tryz.f27 jk5:=lK (Za5 j2H Zar) [] oN ([],[]) [(0,[1],[1])] ([2],[]) λ_ _ _ _ _=>by kernel_rfl
def j4G (p:qL)(b:Bool->Res):Res:=jll p (nI p.length) p Z1b 0 (λ_=>b (decide ((nI p.length)<=6))) (λ_=>b false)
def j7Q:Sig Unit:=sg [.look y8 true] [false] [(y8,none)] [] λd f k=>j4G d.1 (λb=>k [wB b] [] [])
theorem jgL:SO 27 j7Q:=fK (np:=0) (Za5 j2H Zar) [jk5] (oI 26 0 @jqT oN) false Tryz.func27 λ_ _ _ _=>by kernel_rfl
def j6j (d:qL)(h:Int)(p:qL)(b:Int)(rec:Int->Res)(g:Unit->Res)(f:Unit->Res):Res:=bif decide (b<h) then bif inb b d.length then j0r (nth eS d b) λr=>bif !r then f () else bif decide (b>0) then bif inb (Z9J (b-1)) p.length then bif sGe (nth eS p (Z9J (b-1))) (nth eS d b) then f () else rec (Z9J (b+1)) else none else rec (Z9J (b+1)) else none else g ()
def jcD (b:qL)(d:Int)(p:qL):Int->(Int->Res)->((Unit->Res)×(Unit->Res))->Res:=λv rec q=>j6j b d p v (λf=>rec (f)) q.1 q.2
def jl5 (f:qL)(g:Int)(p:qL)(n:Nat)(h:Int)(b:Unit->Res)(d:Unit->Res):Res:=Z1e (jcD f g p) n (h) (b,d)
def jjZ:Z1c Unit:=NdL 35 35 [.t 1 (pB 1),.R 6 y8 .S,.I 7,.I 8] [(1,y8,[.S])] (λb d=>(b.2.2.1)) (λb v=>(b.1,b.2.1,v,())) (λd v=>((d.1.1,d.1.2),())) (λb d=>jcD b.1 b.2.1 d.1.2) λb d f=>((λ_=>f (.exit 0) [(1,pB 1)] [(1,⟨y8,d.1.1,d.1.2,[.S]⟩)]),(λ_=>f .ret [(2,vB false)] []))
theorem jqL:CN 0 26 Tryz.f34 jjZ:=lK (Za5 j3P Zar) [] oN ([],[]) [(0,[1],[1])] ([2],[]) λ_ _ _ _ _=>by kernel_rfl
def j8k (p:qL)(b:Bool->Res):Res:=jl5 p (nI p.length) p Z1b 0 (λ_=>b (decide ((nI p.length)<=6))) (λ_=>b false)
def jd4:Sig Unit:=sg [.look y8 true] [false] [(y8,none)] [] λd f k=>j8k d.1 (λb=>k [wB b] [] [])
theorem jlE:SO 34 jd4:=fK (np:=0) (Za5 j3P Zar) [jjZ] (oI 26 0 @jqL oN) false Tryz.func34 λ_ _ _ _=>by kernel_rfl
def jcr (p:qL)(b:qB)(d:Bool->Res):Res:=j4G p λr=>bif r then j6X p b λf=>d f else d false
def jiV:Sig Unit:=sg [.look y8 true,.look .str false] [false] [(y8,none),(.str,none)] [] λb f k=>jcr b.1 b.2.1 (λd=>k [wB d] [] [])
theorem jum:SO 75 jiV:=fK (np:=0) (Za5 jgL (Za5 jkZ Zar)) [] oN false Tryz.func75 λ_ _ _ _=>by delta jcr j7Q jfA;refine gz j4G λ_ b=>gz j6X λ_ d=> ?_;rewrite[<-b,<-d];kernel_rfl
def j89 (p:qS×qL×qL)(b:(qS×qL×qL)->Res):Res:=Z86 (j0U p.1 λr=>Z86 (Z86 (bif lim (0+p.2.1.length) then bif lim (0+p.2.2.length) then b (r,p.2.1,p.2.2) else none else none) (bif lim (0+p.2.1.length) then bif lim (0+p.2.2.length) then b (r,p.2.1,p.2.2) else none else none)) (bif lim (0+p.2.1.length) then bif lim (0+p.2.2.length) then b (r,p.2.1,p.2.2) else none else none)) (Z86 (Z86 (j0U p.1 λd=>Z86 (bif lim (0+p.2.1.length) then bif lim (0+p.2.2.length) then b (d,p.2.1,p.2.2) else none else none) (bif lim (0+p.2.1.length) then bif lim (0+p.2.2.length) then b (d,p.2.1,p.2.2) else none else none)) (j0U p.1 λf=>bif lim (0+p.2.1.length) then bif lim (0+p.2.2.length) then b (f,p.2.1,p.2.2) else none else none)) (Z86 (j0U p.1 λg=>bif lim (0+p.2.1.length) then bif lim (0+p.2.2.length) then b (g,p.2.1,p.2.2) else none else none) (j0U p.1 λh=>bif lim (0+p.2.1.length) then bif lim (0+p.2.2.length) then b (h,p.2.1,p.2.2) else none else none)))
def jeD:Sig Unit:=sg [.borrow y38 true] [true] [(y38,none)] [] λd f k=>j89 d.1 (λb=>k [⟨y38,true,b,[.O,.O,.O,.O,.O,.O]⟩] [] [])
theorem jqs:SO 76 jeD:=fK (np:=0) (Za5 jar Zar) [] oN false Tryz.func76 λ_ _ _ _=>by delta j89 jaE;refine gz j0U λ_ b=> ?_;rewrite[<-b];kernel_rfl
theorem jhL:FS [(27,j7Q),(74,jex),(75,jiV),(76,jeD)]:=(Za5 jgL (Za5 jql (Za5 jum (Za5 jqs Zar))))
def j26 (f:List (qS×qL×qL))(g:Int)(p:qL)(d:Int)(b:Int×Int×List (qS×qL×qL))(rec:Int->(Int×Int×List (qS×qL×qL))->Res)(h:(Int×Int×List (qS×qL×qL))->Res):Res:=bif decide (d<g) then bif inb d f.length then jcr p (nth ((0,eS,[],[],0,eS,[],[],eS,eS),[],[]) f d).1.2.1 λr=>bif r then j89 (nth ((0,eS,[],[],0,eS,[],[],eS,eS),[],[]) f d) λi=>bif lim (b.2.2.length+1) then rec (Z9J (d+1)) (b.1,b.2.1,(b.2.2++[i])) else none else rec (Z9J (d+1)) b else none else h b
def j3x (d:List (qS×qL×qL))(f:Int)(p:qL):(Int×(Int×Int×List (qS×qL×qL)))->(Int×(Int×Int×List (qS×qL×qL))->Res)->(((Int×Int×List (qS×qL×qL))->Res))->Res:=λv rec q=>j26 d f p v.1 v.2 (λg b=>rec (g,b)) q
def jbY (d:List (qS×qL×qL))(f:Int)(p:qL)(n:Nat)(g:Int)(b:Int×Int×List (qS×qL×qL))(h:(Int×Int×List (qS×qL×qL))->Res):Res:=Z1e (j3x d f p) n (g,b) (h)
def jbf:Z1c Unit:=NdL 43 43 [.t 2 (pB 2),.t 4 (pB 4),.t 5 (pB 5),.R 23 y39 .S,.I 24,.I 25] [(2,y8,[.S]),(4,y41,[.O]),(5,y41,[.O])] (λd b=>(d.2.2.1,b.2.2.1.2)) (λd v=>(d.1,d.2.1,v.1,())) (λb v=>((b.1.1,b.1.2),(b.2.1.1,b.2.1.2),(b.2.2.1.1,v.2),())) (λd b=>j3x d.1 d.2.1 b.1.2) λd b g=>((λf=>g (.exit 0) [(4,pB 4),(5,pB 5)] [(4,⟨y41,b.2.1.1,b.2.1.2,[.O]⟩),(5,⟨y41,b.2.2.1.1,f,[.O]⟩)]))
theorem jna:CN 0 122 Tryz.f43 jbf:=lK jhL [] oN ([],[]) [(0,[4,5],[4,5])] ([],[]) λ_ _ _ _ _=>by delta j3x j26 jiV jeD;refine gz jcr λ_ b=>gz j89 λ_ d=> ?_;rewrite[<-b,<-d];kernel_rfl
def j8X (p:qL)(b:Int×Int×List (qS×qL×qL))(d:(Int×Int×List (qS×qL×qL))->Res):Res:=j4G p λr=>bif !r then d (0,0,[]) else j7Y b λg=>bif !g then d (0,0,[]) else jbY b.2.2 (nI b.2.2.length) p Z1b 0 (b.1,b.2.1,[]) λf=>d f
def jif:Sig Unit:=sg [.borrow y8 true,.borrow y41 true] [true] [(y8,none),(y41,none)] [] λb f k=>j8X b.1 b.2.1 (λd=>k [⟨y41,true,d,[.O]⟩] [] [])
theorem joW:SO 43 jif:=fK (np:=0) jhL [jbf] (oI 122 0 @jna oN) false Tryz.func43 λ_ _ _ _=>by delta j8X j7Q jex jbf jbY;refine gz j4G λ_ b=>gz j7Y λ_ d=>gz j3x λ_ f=> ?_;rewrite[<-b,<-d,<-f];kernel_rfl
theorem jgu:FS [(27,j7Q),(42,jfz),(43,jif)]:=(Za5 jgL (Za5 js3 (Za5 joW Zar)))
def j2W (f:List (Int×Int×List (qS×qL×qL)))(g:Int)(p:qL)(d:List (Int×Int×List (qS×qL×qL)))(b:Int)(rec:(List (Int×Int×List (qS×qL×qL)))->Int->Res)(h:(List (Int×Int×List (qS×qL×qL)))->Res):Res:=bif decide (b<g) then bif inb b f.length then j8X p (nth (0,0,[]) f b) λr=>bif lim (d.length+1) then rec (d++[r]) (Z9J (b+1)) else none else none else h d
def j5T (d:List (Int×Int×List (qS×qL×qL)))(f:Int)(p:qL):((List (Int×Int×List (qS×qL×qL)))×Int)->((List (Int×Int×List (qS×qL×qL)))×Int->Res)->(((List (Int×Int×List (qS×qL×qL)))->Res))->Res:=λv rec q=>j2W d f p v.1 v.2 (λb g=>rec (b,g)) q
def jb5 (d:List (Int×Int×List (qS×qL×qL)))(f:Int)(p:qL)(n:Nat)(b:List (Int×Int×List (qS×qL×qL)))(g:Int)(h:(List (Int×Int×List (qS×qL×qL)))->Res):Res:=Z1e (j5T d f p) n (b,g) (h)
def jak:Z1c Unit:=NdL 31 31 [.t 3 (pB 3),.R 7 y42 .O,.R 17 y42 .O,.I 18,.I 19] [(3,y8,[.S])] (λb d=>(b.1,b.2.2.2.1)) (λb v=>(v.1,b.2.1,b.2.2.1,v.2,())) (λd v=>((d.1.1,d.1.2),())) (λb d=>j5T b.2.1 b.2.2.1 d.1.2) λb d g=>((λf=>g (.exit 0) [(7,v1 y42 f .O)] []))
theorem jma:CN 0 122 Tryz.f12 jak:=lK jgu [] oN ([],[]) [(0,[7],[])] ([],[]) λ_ _ _ _ _=>by kernel_rfl
def j4T (p:qL)(l:List qP)(b:Int)(f:(List (Int×Int×List (qS×qL×qL)))->Res):Res:=j4G p λr=>bif !r then f [] else j98 l b λg=>jb5 g (nI g.length) p Z1b [] 0 λd=>f d
def jbT:Sig Unit:=sg [.borrow y8 true,.borrow y20 false,.borrow tI false] [false] [(y8,none),(y20,none),(tI,none)] [] λb f k=>j4T b.1 b.2.1 b.2.2.1 (λd=>k [w1 y42 d .O] [] [])
theorem jnL:SO 12 jbT:=fK (np:=0) jgu [jak] (oI 122 0 @jma oN) false Tryz.func12 λ_ _ _ _=>by delta j4T j7Q jfz jak jb5;refine gz j4G λ_ b=>gz j98 λ_ d=>gz j5T λ_ f=> ?_;rewrite[<-b,<-d,<-f];kernel_rfl
def jec (x:qS×qL×qL)(d:qL)(b:Bool->Res):Res:=j0X d x.1.2.1 λr=>b (!r)
def joF:Sig Unit:=sg [.look y38 true,.rptr y8] [false] [(y38,none),(y8,none)] [] λb f k=>jec b.1 b.2.1 (λd=>k [wB d] [] [])
theorem jnJ:SO 82 joF:=fK (np:=0) (Za5 j9N Zar) [] oN false Tryz.func82 λ_ _ _ _=>by kernel_rfl
def j3d (s:List (qS×qL×qL))(b:qL)(d:(List (qS×qL×qL))->qL->Res):Res:=bif lim s.length then dgE (λe k=>jec e b k) s [] (λr=>d r b) else none
def ja3:Sig Unit:=⟨[.eat y39 false,.clos 82 [y8]],[false],λvals ext k=>ao vals y39 [.O] λs vals=>nl vals<|ab ext y8 [.S] λa0 f ext=>nl ext<|j3d s f (λd b=>k [w1 y39 d .O] [] [⟨y8,a0,b,[.S]⟩])⟩
theorem jgG:Z16 Tryz.prog 81 ja3:=gS (jw3 (U:=0) (T:=150) (e:=y38) (ag:=true) (τ:=y8) (tg:=[.S]) (fl:=[111,23,23]) (S:=99) (E:=141) (I:=3) (B:=4) follows j2e (by kernel_rfl) Tryz.underlying99 (by kernel_rfl) (by kernel_rfl) (by kernel_rfl) (by kernel_rfl) Tryz.isAgg150 Tryz.sizeOf150 (by kernel_rfl) (by kernel_rfl) (by kernel_rfl) Tryz.func131 (by kernel_rfl) (by kernel_rfl) (by kernel_rfl) (by kernel_rfl) jnJ (by kernel_rfl) Tryz.func81 (by kernel_rfl) (by kernel_rfl) (by kernel_rfl) (by kernel_rfl)) (by kernel_rfl)
def j8O (p:qL)(b:Int×Int×List (qS×qL×qL))(d:(Int×Int×List (qS×qL×qL))->Res):Res:=j8k p λr=>bif !r then d (0,0,[]) else j7o b λg=>bif !g then d (0,0,[]) else j7w b λf=>j3d f.2.2 p λh i=>d (f.1,f.2.1,h)
def jid:Sig Unit:=sg [.borrow y8 true,.borrow y41 true] [true] [(y8,none),(y41,none)] [] λb f k=>j8O b.1 b.2.1 (λd=>k [⟨y41,true,d,[.O]⟩] [] [])
theorem joO:SO 47 jid:=fK (np:=0) (Za5 jlE (Za5 jqa (Za5 jnK (Za5 jgG Zar)))) [] oN false Tryz.func47 λ_ _ _ _=>by delta j8O jd4 jjG jhi ja3;refine gz j8k λ_ b=>gz j7o λ_ d=>gz j7w λ_ f=>gz j3d λ_ g=> ?_;rewrite[<-b,<-d,<-f,<-g];kernel_rfl
theorem jgs:FS [(34,jd4),(46,jft),(47,jid)]:=(Za5 jlE (Za5 jrQ (Za5 joO Zar)))
def j2Q (f:List (Int×Int×List (qS×qL×qL)))(g:Int)(p:qL)(d:List (Int×Int×List (qS×qL×qL)))(b:Int)(rec:(List (Int×Int×List (qS×qL×qL)))->Int->Res)(h:(List (Int×Int×List (qS×qL×qL)))->Res):Res:=bif decide (b<g) then bif inb b f.length then j8O p (nth (0,0,[]) f b) λr=>bif lim (d.length+1) then rec (d++[r]) (Z9J (b+1)) else none else none else h d
def j5N (d:List (Int×Int×List (qS×qL×qL)))(f:Int)(p:qL):((List (Int×Int×List (qS×qL×qL)))×Int)->((List (Int×Int×List (qS×qL×qL)))×Int->Res)->(((List (Int×Int×List (qS×qL×qL)))->Res))->Res:=λv rec q=>j2Q d f p v.1 v.2 (λb g=>rec (b,g)) q
def jaV (d:List (Int×Int×List (qS×qL×qL)))(f:Int)(p:qL)(n:Nat)(b:List (Int×Int×List (qS×qL×qL)))(g:Int)(h:(List (Int×Int×List (qS×qL×qL)))->Res):Res:=Z1e (j5N d f p) n (b,g) (h)
def jag:Z1c Unit:=NdL 31 31 [.t 3 (pB 3),.R 7 y42 .O,.R 17 y42 .S,.I 18,.I 19] [(3,y8,[.S])] (λb d=>(b.1,b.2.2.2.1)) (λb v=>(v.1,b.2.1,b.2.2.1,v.2,())) (λd v=>((d.1.1,d.1.2),())) (λb d=>j5N b.2.1 b.2.2.1 d.1.2) λb d g=>((λf=>g (.exit 0) [(7,v1 y42 f .O)] []))
theorem jlX:CN 0 122 Tryz.f15 jag:=lK jgs [] oN ([],[]) [(0,[7],[])] ([],[]) λ_ _ _ _ _=>by kernel_rfl
def j1S (p:qL)(l:List qP)(b:Int)(f:(List (Int×Int×List (qS×qL×qL)))->Res):Res:=j8k p λr=>bif !r then f [] else j90 l b λg=>jaV g (nI g.length) p Z1b [] 0 λd=>f d
def j8r:Sig Unit:=sg [.borrow y8 true,.borrow y20 false,.borrow tI false] [false] [(y8,none),(y20,none),(tI,none)] [] λb f k=>j1S b.1 b.2.1 b.2.2.1 (λd=>k [w1 y42 d .O] [] [])
theorem jnI:SO 15 j8r:=fK (np:=0) jgs [jag] (oI 122 0 @jlX oN) false Tryz.func15 λ_ _ _ _=>by delta j1S jd4 jft jag jaV;refine gz j8k λ_ b=>gz j90 λ_ d=>gz j5N λ_ f=> ?_;rewrite[<-b,<-d,<-f];kernel_rfl
end
end Go.PI.G
namespace Go.PI.G
noncomputable section
open Go Go.PI Go.Proofs
open Go.Code (pl pr)
def jcT (a:Int×Int×qB)(left:Int)(b:Int->Res):Res:=bif decide ((Z9J (left-(nI a.2.2.size)))<0) then b (-1) else b (Z9J (left-(nI a.2.2.size)))
def jtX:Sig Unit:=sg [.look y1 true,.look tI false] [false] [(y1,none),(tI,none)] [] λb f k=>jcT b.1 b.2.1 (λd=>k [wI d] [] [])
theorem jgD:SO 164 jtX:=fK (np:=0) Zar [] oN false Tryz.func164 λ_ _ _ _=>by kernel_rfl
def jcV (a:Int×Int×qB)(b:qV->Res):Res:=b (a.1,a.2.1,a.2.2)
def ju0:Sig Unit:=sg [.look y1 true] [true] [(y1,none)] [] λd f k=>jcV d.1 (λb=>k [⟨y1,true,b,[]⟩] [] [])
theorem jgF:SO 171 ju0:=fK (np:=0) Zar [] oN false Tryz.func171 λ_ _ _ _=>by kernel_rfl
def jcQ (a:Int×Int×qB)(b:Int×Int×qB)(d:Bool->Res):Res:=bif (a.1 != b.1) then d false else bif (a.2.1 != b.2.1) then d false else bif sNe a.2.2 b.2.2 then d false else d true
def jtU:Sig Unit:=sg [.look y1 true,.look y1 true] [false] [(y1,none),(y1,none)] [] λb f k=>jcQ b.1 b.2.1 (λd=>k [wB d] [] [])
theorem jgz:SO 180 jtU:=fK (np:=0) Zar [] oN false Tryz.func180 λ_ _ _ _=>by kernel_rfl
end
end Go.PI.G
namespace Go.PI.G
noncomputable section
open Go Go.PI Go.Proofs
open Go.Code (pl pr)
def jgb (a:qB×Int×Bool×Bool×Int×Int×qB)(left:Int)(b:Int->Res):Res:=bif decide ((Z9J (left-(nI a.1.size)))<0) then b (-1) else jcT a.2.2.2.2 (Z9J (left-(nI a.1.size))) λr=>bif decide (r<0) then b (-1) else b r
def jtV:Sig Unit:=sg [.look y6 true,.look tI false] [false] [(y6,none),(tI,none)] [] λb f k=>jgb b.1 b.2.1 (λd=>k [wI d] [] [])
theorem jlI:SO 210 jtV:=fK (np:=0) (Za5 jgD Zar) [] oN false Tryz.func210 λ_ _ _ _=>by kernel_rfl
def jgd (a:qB×Int×Bool×Bool×Int×Int×qB)(b:qC->Res):Res:=jcV a.2.2.2.2 λr=>b (a.1,a.2.1,a.2.2.1,a.2.2.2.1,r)
def jtY:Sig Unit:=sg [.look y6 true] [true] [(y6,none)] [] λd f k=>jgd d.1 (λb=>k [⟨y6,true,b,[]⟩] [] [])
theorem jlK:SO 213 jtY:=fK (np:=0) (Za5 jgF Zar) [] oN false Tryz.func213 λ_ _ _ _=>by kernel_rfl
def jg9 (a:qB×Int×Bool×Bool×Int×Int×qB)(b:qB×Int×Bool×Bool×Int×Int×qB)(d:Bool->Res):Res:=bif sNe a.1 b.1 then d false else bif (a.2.1 != b.2.1) then d false else bif !(a.2.2.1==b.2.2.1) then d false else bif !(a.2.2.2.1==b.2.2.2.1) then d false else jcQ a.2.2.2.2 b.2.2.2.2 λr=>bif !r then d false else d true
def jtS:Sig Unit:=sg [.look y6 true,.look y6 true] [false] [(y6,none),(y6,none)] [] λb f k=>jg9 b.1 b.2.1 (λd=>k [wB d] [] [])
theorem jlF:SO 222 jtS:=fK (np:=0) (Za5 jgz Zar) [] oN false Tryz.func222 λ_ _ _ _=>by kernel_rfl
end
end Go.PI.G
namespace Go.PI.G
noncomputable section
open Go Go.PI Go.Proofs
open Go.Code (pl pr)
def j3o (d:Int)(b:qB)(rec:Int->qB->Res)(f:qB->Res):Res:=bif decide (d>0) then bif lim ((ByteArray.size (Z3A [wu8 (Z9J (48+(Int.tmod d 10)))]))+b.size) then rec (Z9J (Int.tdiv d 10)) ((Z3A [wu8 (Z9J (48+(Int.tmod d 10)))])++b) else none else f b
def j6u:(Int×qB)->(Int×qB->Res)->((qB->Res))->Res:=λv rec q=>j3o v.1 v.2 (λd b=>rec (d,b)) q
def jh7 (n:Nat)(f:Int)(b:qB)(d:qB->Res):Res:=Z1e (j6u) n (f,b) (d)
def jg2:Z1c Unit:=NdL 20 20 [.I 0,.S 3] [] (λd f=>(d.1,d.2.1)) (λd v=>(v.1,v.2,())) (λf v=>()) (λd f=>j6u) λd f g=>((λb=>g (.exit 0) [(3,vS b)] []))
theorem jn6:CN 0 60 Tryz.f52 jg2:=lK Zar [] oN ([],[]) [(0,[3],[])] ([],[]) λ_ _ _ _ _=>by kernel_rfl
def j05 (f:Int)(d:qB->Res):Res:=bif decide (f<=0) then d jyp else jh7 Z1b f eS λb=>bif lim (1+b.size) then d (z_m++b) else none
def j1w:Sig Unit:=sg [.look tI false] [false] [(tI,none)] [] λd f k=>j05 d.1 (λb=>k [wS b] [] [])
theorem j0c:SO 52 j1w:=fK (np:=0) Zar [jg2] (oI 60 0 @jn6 oN) false Tryz.func52 λ_ _ _ _=>by kernel_rfl
end
end Go.PI.G
