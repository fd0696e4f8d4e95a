/-
  Program's code interpreted over typed values; printed texts; plain laws. No conditions.
-/
import Derived.Calls
import Derived.Orders
import GoSem.Dispatch
import Derived.Laws.Append
import Derived.Laws.CopyRow
import Derived.Laws.BytesString
import Derived.Laws.Concat
import Derived.Tactics
import Derived.WideLaws
import Derived.Laws.Strings
import Derived.Laws.Cover1
import Derived.Laws.StructEq
import Derived.Laws.IdiomStrings
import Derived.Laws.MakeOwn
import Derived.Great.BuildSlice
set_option linter.unusedVariables false
set_option linter.unusedSimpArgs false
namespace Go.PI
abbrev Q0:=@cond_false
abbrev Q1:=@cond_true
abbrev Q2:=@decide_eq_false
abbrev Q3:=@decide_eq_true
abbrev Q4:=@Bool.not_true
abbrev Q5:=@List.length_append
abbrev Q6:=@Bool.and_eq_true
abbrev Q7:=@List.getElem_mem
abbrev Q8:=@List.length_cons
abbrev Q9:=@Option.some.injEq
abbrev Qa:=@List.mem_cons_of_mem
abbrev Qb:=@List.append_assoc
abbrev Qc:=@List.getD_eq_getElem?_getD
abbrev Qd:=@Bool.true_and
abbrev Qe:=@List.append_nil
abbrev Qf:=@List.length_take
abbrev Qg:=@Nat.zero_le
abbrev Qh:=@List.mem_append_left
abbrev Qi:=@ByteArray.size_append
abbrev Qj:=@List.nodup_append
abbrev Qk:=@List.nil_append
abbrev Ql:=@decide_eq_true_eq
abbrev Qm:=@Option.map_eq_some_iff
abbrev Qn:=@List.getElem?_eq_getElem
abbrev Qo:=@List.mem_append_right
abbrev Qp:=@List.mem_cons
abbrev Qq:=@Nat.le_refl
abbrev Qr:=@List.mem_append
abbrev Qs:=@Prod.mk.injEq
abbrev Qt:=@Nat.mul_le_mul_right
abbrev Qu:=@List.length_drop
abbrev Qv:=@List.length_eq_zero_iff
abbrev Qw:=@List.length_singleton
abbrev Qx:=@Nat.le_trans
abbrev Qy:=@List.length_map
abbrev Qz:=@List.map_cons
abbrev QA:=@List.take_succ_eq_append_getElem
abbrev QB:=@List.mem_singleton
abbrev QC:=@Nat.add_mul
abbrev QD:=@List.all_eq_true
abbrev QE:=@List.length_nil
abbrev QF:=@Bool.not_eq_true'
abbrev QG:=@beq_iff_eq
abbrev QH:=@List.flatMap_cons
abbrev QI:=@List.size_toArray
abbrev QJ:=@List.drop_eq_getElem_cons
abbrev QK:=@Array.getElem?_toList
abbrev QL:=@List.cons_append
abbrev QM:=@if_pos
abbrev QN:=@if_neg
abbrev QO:=@List.flatten_cons
abbrev QP:=@Nat.le_of_ble_eq_true
abbrev QQ:=@Bool.not_false
abbrev QR:=@List.cons.inj
abbrev QS:=@Int.toNat_natCast
abbrev QT:=@of_decide_eq_true
abbrev QU:=@List.map_append
abbrev QV:=@Array.getElem?_eq_some_iff
abbrev QW:=@Bool.false_and
abbrev QX:=@List.sum_cons
abbrev QY:=@List.foldl_cons
abbrev QZ:=@List.perm_iff_count
abbrev X1:=@ByteArray.append_assoc
abbrev X2:=@List.mem_iff_getElem
abbrev X3:=@List.mem_flatten
abbrev X4:=@List.cons.injEq
abbrev X5:=@Array.getD_eq_getD_getElem?
abbrev X6:=@List.mem_map
abbrev X7:=@List.mem_of_mem_take
abbrev X8:=@Array.length_toList
abbrev X9:=@List.drop_drop
abbrev Xa:=@Bool.not_eq_false'
abbrev Xb:=@Bool.or_eq_false_iff
abbrev Xc:=@List.mem_of_mem_drop
abbrev Xd:=@List.take_of_length_le
abbrev Xe:=@beq_self_eq_true
abbrev Xf:=@List.drop_zero
abbrev Xg:=@Nat.one_mul
abbrev Xh:=@List.getElem_append_right
abbrev Xi:=@List.take_length
abbrev Xj:=@Bool.false_eq_true
abbrev Xk:=@decide_eq_false_iff_not
abbrev Xl:=@List.findIdx?_eq_some_iff_getElem
abbrev Xm:=@Bool.and_true
abbrev Xn:=@List.getElem_map
abbrev Xo:=@List.getElem_of_mem
abbrev Xp:=@Array.getElem?_eq_getElem
abbrev Xq:=@Bool.or_eq_true
abbrev Xr:=@List.filter_cons_of_neg
abbrev Xs:=@List.filter_cons_of_pos
abbrev Xt:=@decide_eq_decide
abbrev Xu:=@Nat.zero_add
abbrev Xv:=@congrArg
abbrev Xw:=@List.getElem_append_left
abbrev Xx:=@List.nodup_cons
abbrev Xy:=@Array.replicate_succ
abbrev Xz:=@Array.replicate_zero
abbrev XA:=@List.count_append
abbrev XB:=@List.take_append_drop
abbrev XC:=@List.mem_replicate
abbrev XD:=@List.append_toArray
abbrev XE:=@List.pairwise_iff_getElem
abbrev XF:=@Bool.and_false
abbrev XG:=@Array.getElem?_modify
abbrev XH:=@if_true
abbrev XI:=@if_false
abbrev XJ:=@List.not_mem_nil
abbrev XK:=@Nat.add_zero
abbrev XL:=@List.push_toArray
abbrev XM:=@List.pairwise_cons
abbrev XN:=@List.take_append_of_le_length
abbrev XO:=@List.getElem?_map
abbrev XP:=@List.Perm.append_left
abbrev XQ:=@List.perm_append_comm
abbrev XR:=@List.eraseIdx_eq_take_drop_succ
abbrev XS:=@List.all_cons
abbrev XT:=@List.flatten_nil
abbrev XU:=@Option.map_some
abbrev XV:=@List.getElem?_drop
abbrev XX:=@List.take_zero
abbrev XY:=@Bool.false_or
abbrev XZ:=@List.flatten_append
abbrev Y0:=@List.ext_getElem
abbrev Y1:=@Nat.lt_of_lt_of_le
abbrev Y2:=@List.takeWhile_append_dropWhile
abbrev Y3:=@List.length_filter_le
abbrev Y4:=@Eq.trans
abbrev Y5:=@List.all_eq_not_any_not
abbrev Y6:=@List.Sublist.refl
abbrev Y7:=@List.getElem_take
abbrev Y8:=@List.findIdx?_eq_none_iff
abbrev Y9:=@List.drop_eq_nil_of_le
abbrev Ya:=@List.getElem?_take
abbrev Yb:=@List.drop_left
abbrev Yc:=@List.cons_ne_nil
abbrev Yd:=@List.map_congr_left
abbrev Ye:=@beq_eq_false_iff_ne
abbrev Yf:=@List.getElem?_eq_none
abbrev Yg:=@List.getElem_eraseIdx
abbrev Yh:=@List.map_nil
abbrev Yi:=@Nat.lt_or_ge
abbrev Yj:=@Option.bind_eq_some_iff
abbrev Yk:=@List.length_eraseIdx
abbrev Yl:=@List.mem_of_getElem?
abbrev Ym:=@Bool.eq_iff_iff
abbrev Yn:=@List.any_eq_true
abbrev Yo:=@List.getElem_cons_succ
abbrev Yp:=@List.getElem_cons_zero
abbrev Yq:=@List.map_map
abbrev Yr:=@dif_pos
abbrev Ys:=@getElem!_pos
abbrev Yt:=@List.getElem?_append_left
abbrev Yu:=@List.getD_cons_zero
abbrev Yv:=@List.length_pos_iff
abbrev Yw:=@List.mem_map_of_mem
abbrev Yx:=@List.any_eq_false
abbrev Yy:=@dif_neg
abbrev Yz:=@List.drop_take
abbrev YA:=@List.getElem?_take_of_lt
abbrev YB:=@List.take_left
abbrev YC:=@List.sum_append
abbrev YD:=@List.take_left'
abbrev YE:=@Nat.min_eq_left
abbrev YF:=@List.getElem?_cons_zero
abbrev YG:=@List.getElem?_append_right
abbrev YH:=@List.getElem_drop
abbrev YI:=@List.takeWhile_cons_of_neg
abbrev YJ:=@List.takeWhile_cons_of_pos
abbrev YK:=@Nat.mul_le_mul
abbrev YL:=@List.take_succ_cons
abbrev YM:=@List.drop_left'
abbrev YN:=@and_congr_right
abbrev YO:=@Array.getElem?_setIfInBounds_ne
abbrev YP:=@List.replicate_append_replicate
abbrev YQ:=@List.getElem?_eq_some_iff
abbrev YR:=@Classical.choose_spec
abbrev YS:=@List.eraseIdx_sublist
abbrev YT:=@List.drop_length
abbrev YU:=@List.isEmpty_iff
abbrev YV:=@List.mem_flatMap
abbrev YW:=@Array.getElem?_setIfInBounds_self_of_lt
abbrev YX:=@List.drop_append_of_le_length
abbrev YY:=@List.foldl_nil
abbrev YZ:=@or_false
end Go.PI
namespace Go.PI
noncomputable section
inductive Ty where
 |int (k:IntKind) | bool | str | unit
 |slice (e:Ty) | pair (a b:Ty)
 deriving DecidableEq
@[reducible] def El:Ty->Type
 |.int _=>Int
 |.bool=>Bool
 |.str=>ByteArray
 |.unit=>Unit
 |.slice e=>List (El e)
 |.pair a b=>El a×El b
def zero:(τ:Ty)->El τ
 |.int _=>(0:Int)
 |.bool=>false
 |.str=>(⟨#[]⟩:ByteArray)
 |.unit=>()
 |.slice _=>[]
 |.pair a b=>(zero a,zero b)
def size:Ty->Nat
 |.unit=>0
 |.pair a b=>size a+size b
 |_=>1
def Z06:Ty->Nat
 |.slice _=>1
 |.pair a b=>Z06 a+Z06 b
 |_=>0
inductive Tag where
 |O | PS | PN | S | N
 deriving DecidableEq
def Tag.own:Tag->Bool
 |.O | .PS | .PN=>true
 |_=>false
def Tag.alias:Tag->Tag
 |.S=> .S
 |_=> .N
def Tag.inner:Tag->Tag
 |.O=> .O
 |.PS | .S=> .S
 |.PN | .N=> .N
def Tag.meet:Tag->Tag->Tag
 |.O,t=>t
 |t,.O=>t
 |.S,.S=> .S
 |_,_=> .N
def Tag.over:Tag->Tag
 |.O=> .O
 |.S | .PS=> .PS
 |.N | .PN=> .PN
def Tag.isO:Tag->Bool
 |.O=>true
 |_=>false
def Tag.isN:Tag->Bool
 |.N | .PN=>true
 |_=>false
def Tag.isS:Tag->Bool
 |.S=>true
 |_=>false
def Tag.freeze:Tag->Tag
 |.O | .PS | .S=> .S
 |_=> .N
structure TVal where
 τ:Ty
 ag:Bool
 x:El τ
 tg:List Tag
inductive Step where
 |fst | snd | idx (i:Nat)
 deriving DecidableEq
structure Place where
 box:Bool
 root:Nat
 path:List Step
 deriving DecidableEq
inductive TV where
 |dead
 |un
 |nil
 |val (v:TVal)
 |tup (v:TVal) (ags:List Bool)
 |ref (p:Place) (ag:Bool)
 |ptr (p:Place)
 |eptr (v:TVal) (t:Tag)
 |eref (p:Place)
 |tref (t:Nat) (ags:List Bool)
 |sptr (r:Nat) (τ:Ty) (p:List Step)
 |clos (fn:FuncId) (caps:List Place)
 |sclos (fn:FuncId) (τs:List Ty) (v:TVal)
structure State where
 slots:List TV
 boxes:List (Option TVal)
def Z0u {α:Type}(d:α)(l:List α):Nat->α:=
 List.rec (motive:=λ_=>Nat->α) (λ_=>d) (λa _ b n=>Nat.rec (motive:=λ_=>α) a (λm _=>b m) n) l
def Z0G {α:Type}(l:List α):Nat->α->List α:=
 List.rec (motive:=λ_=>Nat->α->List α) (λ_ _=>[]) (λa l b n v=>Nat.rec (motive:=λ_=>List α) (v::l) (λm _=>a::b m v) n) l
def Z51 {α β:Type}(f:α->β)(l:List α):List β:=List.rec (motive:=λ_=>List β) [] (λa _ b=>f a::b) l
theorem Z0x {α:Type}(d:α)(i:Nat):Z0u d [] i=d:=rfl
theorem Z0s {α:Type}(d a:α)(l:List α):Z0u d (a::l) 0=a:=rfl
theorem Z0p {α:Type}(d a:α)(l:List α)(n:Nat):Z0u d (a::l) (n+1)=Z0u d l n:=rfl
theorem Z2u {α:Type}(i:Nat)(v:α):Z0G [] i v=[]:=rfl
theorem Z28 {α:Type}(a v:α)(l:List α):Z0G (a::l) 0 v=v::l:=rfl
theorem Z1h {α:Type}(a v:α)(l:List α)(n:Nat):Z0G (a::l) (n+1) v=a::Z0G l n v:=rfl
theorem Z0b {α β:Type}(f:α->β):(l:List α)->Z51 f l=l.map f
 | []=>rfl
 |a::l=>Xv (f a:: ·) (Z0b f l)
def State.slot (σ:State)(i:Nat):TV:=Z0u .dead σ.slots i
def State.boxAt (σ:State)(i:Nat):Option TVal:=Z0u none σ.boxes i
def State.putBox (σ:State)(i:Nat)(v:Option TVal):State:={ σ with boxes:=Z0G σ.boxes i v }
def Z2G (τ:Ty)(v:TVal):Option (El τ):=
 if h:v.τ=τ then some (h ▸ v.x) else none
def Z0d:Ty->List Step->Option Ty
 | τ,[]=>some τ
 |.pair a _,.fst::p=>Z0d a p
 |.pair _ b,.snd::p=>Z0d b p
 |_,_=>none
def Z04:(τ:Ty)->El τ->List Tag->List Step->Option TVal
 | τ,x,tg,[]=>some ⟨τ,false,x,tg⟩
 |.pair a b,x,tg,.fst::p=>Z04 a x.1 (tg.take (Z06 a)) p
 |.pair a b,x,tg,.snd::p=>Z04 b x.2 (tg.drop (Z06 a)) p
 |.slice e,x,tg,.idx i::p=>Z04 e (x.getD i (zero e)) (List.replicate (Z06 e) (tg.headD .N).inner) p
 |_,_,_,_=>none
def Z0I:(τ:Ty)->El τ->List Tag->List Step->TVal->Option (El τ×List Tag)
 | τ,_,_,[],v=>if h:v.τ=τ then some (h ▸ v.x,v.tg) else none
 |.pair a b,x,tg,.fst::p,v=>(Z0I a x.1 (tg.take (Z06 a)) p v).map λr=>((r.1,x.2),r.2++tg.drop (Z06 a))
 |.pair a b,x,tg,.snd::p,v=>(Z0I b x.2 (tg.drop (Z06 a)) p v).map λr=>((x.1,r.1),tg.take (Z06 a)++r.2)
 |.slice e,x,tg,.idx i::p,v=>(Z0I e (x.getD i (zero e)) (List.replicate (Z06 e) (tg.headD .N).inner) p v).map λr=>(x.set i r.1,tg)
 |_,_,_,_,_=>none
def Z08:List Step->Bool
 | []=>true
 |.idx _::_=>false
 |_::p=>Z08 p
def State.content (σ:State)(p:Place):Option TVal:=
 match p.box with
 |true=>σ.boxAt p.root
 |false=>match σ.slot p.root with | .val v=>some v | .tup v _=>some v | _=>none
def State.getAt (σ:State)(p:Place):Option TVal:=(σ.content p).bind λv=>Z04 v.τ v.x v.tg p.path
def State.setContent (σ:State)(p:Place)(v:TVal):State:=
 match p.box with
 |true=>{ σ with boxes:=Z0G σ.boxes p.root (some v) }
 |false=>match σ.slot p.root with
  |.val _=>{ σ with slots:=Z0G σ.slots p.root (.val v) }
  |.tup _ ags=>{ σ with slots:=Z0G σ.slots p.root (.tup v ags) }
  |_=>σ
def State.setAt (σ:State)(p:Place)(u:TVal):Option State:=
 (σ.content p).bind λv=>(Z0I v.τ v.x v.tg p.path u).map λr=>σ.setContent p ⟨v.τ,v.ag,r.1,r.2⟩
def TVal.alias (v:TVal):TVal:={ v with tg:=v.tg.map Tag.alias }
def TVal.anyOwn (v:TVal):Bool:=v.tg.any Tag.own
def TVal.freeze (v:TVal):TVal:={ v with tg:=v.tg.map Tag.freeze }
def TVal.allS (v:TVal):Bool:=v.tg.all Tag.isS
def TVal.allO (v:TVal):Bool:=v.tg.all Tag.isO
def TVal.noN (v:TVal):Bool:=v.tg.all λt=> !t.isN
def TV.loosen (box:Bool)(b:Nat):TV->TV
 |.ref p ag=>if p.box==box&&p.root==b then .dead else .ref p ag
 |.eref p=>if p.box==box&&p.root==b then .dead else .eref p
 |.tref t ags=>if !box&&t==b then .dead else .tref t ags
 |tv=>tv
def State.loosen (σ:State)(box:Bool)(b:Nat):State:=
 { σ with slots:=Z51 (TV.loosen box b) σ.slots }
def TV.unpoint (b:Nat):TV->TV
 |.ptr p=>if p.root==b then .dead else .ptr p
 |.clos f d=>if d.any (λp=>p.root==b) then .dead else .clos f d
 |tv=>tv
def State.unpoint (σ:State)(b:Nat):State:={ σ with slots:=Z51 (TV.unpoint b) σ.slots }
def TV.isVal:TV->Bool
 |.val _=>true
 |_=>false
def TV.holds:TV->Bool
 |.val v=>v.anyOwn
 |.tup v _=>v.anyOwn
 |_=>false
def State.put (σ:State)(i:Nat)(v:TV):State:=
 { σ with slots:=Z0G (σ.loosen false i).slots i v }
def TV.unmir (i:Nat):TV->TV
 |.sptr r τ p=>if r==i then .dead else .sptr r τ p
 |tv=>tv
def State.unmir (σ:State)(i:Nat):State:={ σ with slots:=Z51 (TV.unmir i) σ.slots }
def State.puto (σ:State)(d:Option Nat)(v:TV):State:=match d with | some i=>(σ.unmir i).put i (TV.unmir i v) | none=>σ
def Z0y (τ:Ty)(x:El τ):TVal:=⟨τ,false,x,[]⟩
def Z35 (σ:State)(p:Place)(ag:Bool):Option TV:=
 match σ.getAt p with
 |some u=>some (if u.allS then .val { u with ag:=ag } else .ref p ag)
 |none=>none
def State.peek (σ:State):Operand->TV
 |.tmp t=>match σ.slot t with
  |.val v=>if v.anyOwn then .ref ⟨false,t,[]⟩ v.ag else .val v
  |tv=>tv
 |.const (.int k n)=> .val (Z0y (.int k) n)
 |.const (.bool b)=> .val (Z0y .bool b)
 |.const (.string s)=> .val (Z0y .str s)
 |.const (.slice none 0 0)=> .nil
 |.func f=> .clos f []
 |_=> .dead
def State.look (σ:State)(o:Operand):Option TVal:=
 match σ.peek o with
 |.val v=>some v
 |.ref p ag=>(σ.getAt p).map λu=>{ u.alias with ag:=ag }
 |_=>none
def State.lookAs (σ:State)(o:Operand)(τ:Ty):Option TVal:=
 match σ.peek o with
 |.nil=>match τ with | .slice e=>some ⟨.slice e,false,[],[.S]⟩ | _=>none
 |_=>σ.look o
def State.slotOf (σ:State):Operand->Option (Nat×TVal)
 |.tmp t=>match σ.slot t with
  |.val u=>if u.anyOwn then some (t,u) else none
  |_=>none
 |_=>none
def State.take (σ:State)(o:Operand)(τ:Ty):Option (TVal×State):=
 match σ.peek o with
 |.nil=>match τ with | .slice e=>some (⟨.slice e,false,[],[.O]⟩,σ) | _=>none
 |.val v=>if v.τ=τ then some (v,σ) else none
 |.ref p ag=>
  match σ.getAt p with
  |some u=>if u.τ=τ then
    (if u.anyOwn&&Z08 p.path then (σ.setAt p u.alias).map λσ'=>({ u with ag:=ag },σ')
     else some ({ u.alias with ag:=ag },σ))
   else none
  |none=>none
 |_=>none
def TV.kill:TV->TV
 |.val v=>if v.noN then .val v else .dead
 |.tup v a=>if v.noN then .tup v a else .dead
 |.eptr v t=>if t.isN then .dead else .eptr v t
 |tv=>tv
def Z2R:Option TVal->Option TVal
 |some v=>if v.noN then some v else none
 |none=>none
def State.kill (σ:State):State:={ slots:=Z51 TV.kill σ.slots,boxes:=Z51 Z2R σ.boxes }
def Z52:(τ:Ty)->El τ->Bool
 |.slice e,x=>List.isEmpty (α:=El e) x
 |.pair a b,x=>Z52 a x.1&&Z52 b x.2
 |_,_=>true
def Z4h:Option TVal->Option TVal
 |some v=>bif v.noN then some v else bif Z52 v.τ v.x then some { v with tg:=v.tg.map λ_=> .S } else some v
 |none=>none
def State.renil (σ:State):State:={ σ with boxes:=Z51 Z4h σ.boxes }
def LIM:Nat:=2147483648
def Z9N:List Ty->Ty
 | []=> .unit
 | [τ]=>τ
 | τ::b=> .pair τ (Z9N b)
inductive Mode where
 |borrow (τ:Ty) (ag:Bool) | consume (τ:Ty) (ag:Bool) | eat (τ:Ty) (ag:Bool) | inout (τ:Ty) (ag:Bool) | ptr (τ:Ty) | clos (fn:FuncId) (caps:List Ty)
 |look (τ:Ty) (ag:Bool) | rptr (τ:Ty) | rclos (fn:FuncId) (caps:List Ty)
structure Sig (R:Type) where
 modes:List Mode
 ags:List Bool
 run:List TVal->List TVal->(List TVal->List TVal->List TVal->Option R)->Option R
structure Env (R:Type) where
 tys:List (TypeId×Ty×List TypeId)
 fns:List (FuncId×Sig R)
 np:Nat:=0
def Z0o {α:Type}:List (Nat×α)->Nat->Option α
 | [],_=>none
 |(m,a)::l,n=>if m==n then some a else Z0o l n
def tyOf (b:List (TypeId×Ty×List TypeId))(t:TypeId):Option Ty:=(Z0o b t).map (·.1)
def agOf (b:List (TypeId×Ty×List TypeId))(t:TypeId):Bool:=match Z0o b t with | some (_,l)=> !l.isEmpty | none=>false
def Z0a:(n i:Nat)->List Step
 | 0,_=>[]
 | 1,_=>[]
 |_+2,0=>[.fst]
 |n+2,i+1=> .snd::Z0a (n+1) i
def Z4d (b:List (TypeId×Ty×List TypeId))(t:TypeId)(i:Nat):Option (List Step):=
 match Z0o b t with
 |some (_,l)=>if i<l.length then some (Z0a l.length i) else none
 |none=>none
def Z2w (b:List (TypeId×Ty×List TypeId))(t:TypeId)(i:Nat):Bool:=
 match Z0o b t with
 |some (_,l)=>agOf b (l.getD i 0)
 |none=>false
def inb (i:Int)(n:Nat):Bool:=decide (0<=i/\i<(n:Int))
def Z8d (i j:Int)(n:Nat):Bool:=decide (0<=i/\i<=j/\j<=(n:Int))
def sub {α:Type}(l:List α)(i j:Int):List α:=(l.take j.toNat).drop i.toNat
def bt (s:ByteArray)(i:Int):Int:=((s.data.toList.getD i.toNat 0).toNat:Int)
def Z3A (l:List Int):ByteArray:=⟨(l.map λn=>UInt8.ofNat n.toNat).toArray⟩
def Z1m (s:ByteArray):List Int:=s.data.toList.map λb=>(b.toNat:Int)
def mxI (m n:Int):Int:=if n>m then n else m
def mnI (m n:Int):Int:=if n<m then n else m
def lim (n:Nat):Bool:=decide (n<=LIM)
def Z40:(τ:Ty)->El τ->El τ->Option Bool
 |.int _,a,b=>some ((a:Int)==b)
 |.bool,a,b=>some ((a:Bool)==b)
 |.str,a,b=>some (ByteArray.toList a==ByteArray.toList b)
 |.unit,_,_=>none
 |.slice _,_,_=>none
 |.pair s t,a,b=>match Z40 s a.1 b.1,Z40 t a.2 b.2 with | some p,some q=>some (p&&q) | _,_=>none
def Z95 (d:BinOp)(k:IntKind)(a b:Int):Option (Bool×TVal):=
 match d with
 |.add=>some (true,Z0y (.int k) (k.wrap (a+b)))
 |.sub=>some (true,Z0y (.int k) (k.wrap (a-b)))
 |.mul=>some (true,Z0y (.int k) (k.wrap (a * b)))
 |.quo=>some (!decide (b=0),Z0y (.int k) (k.wrap (a.tdiv b)))
 |.rem=>some (!decide (b=0),Z0y (.int k) (a.tmod b))
 |.and=>some (true,Z0y (.int k) (k.wrap ((BitVec.ofInt k.bits a &&& BitVec.ofInt k.bits b).toNat)))
 |.or=>some (true,Z0y (.int k) (k.wrap ((BitVec.ofInt k.bits a ||| BitVec.ofInt k.bits b).toNat)))
 |.xor=>some (true,Z0y (.int k) (k.wrap ((BitVec.ofInt k.bits a ^^^ BitVec.ofInt k.bits b).toNat)))
 |.eql=>some (true,Z0y .bool (a==b))
 |.neq=>some (true,Z0y .bool (a != b))
 |.lss=>some (true,Z0y .bool (decide (a<b)))
 |.leq=>some (true,Z0y .bool (decide (a<=b)))
 |.gtr=>some (true,Z0y .bool (decide (a>b)))
 |.geq=>some (true,Z0y .bool (decide (a>=b)))
 |_=>none
def Z96 (d:BinOp)(a b:ByteArray):Option (Bool×TVal):=
 match d with
 |.add=>some (lim (a.size+b.size),Z0y .str (a++b))
 |.eql=>some (true,Z0y .bool (a.toList==b.toList))
 |.neq=>some (true,Z0y .bool (!(a.toList==b.toList)))
 |.lss=>some (true,Z0y .bool (Op.bytesLess a.toList b.toList))
 |.leq=>some (true,Z0y .bool (Op.bytesLess a.toList b.toList||a.toList==b.toList))
 |.gtr=>some (true,Z0y .bool (!(Op.bytesLess a.toList b.toList||a.toList==b.toList)))
 |.geq=>some (true,Z0y .bool (!(Op.bytesLess a.toList b.toList)))
 |_=>none
def Z97 (d:List (TypeId×Ty×List TypeId))(t:TypeId)(e:BinOp)(u v:TVal):Option (Bool×TVal):=
 match e,u,v with
 |.shl,⟨.int a,false,m,_⟩,⟨.int _,false,n,_⟩=>some (!decide ((n:Int)<0),Z0y (.int a) (a.wrap ((m:Int) * 2 ^ min (Int.toNat n) a.bits)))
 |.shr,⟨.int a,false,m,_⟩,⟨.int _,false,n,_⟩=>some (!decide ((n:Int)<0),Z0y (.int a) (Int.fdiv m (2 ^ min (Int.toNat n) a.bits)))
 |e,⟨.int a,false,m,_⟩,⟨.int b,false,n,_⟩=>if a=b then Z95 e a m n else none
 |e,⟨.str,false,a,_⟩,⟨.str,false,b,_⟩=>Z96 e a b
 |.eql,⟨.bool,false,a,_⟩,⟨.bool,false,b,_⟩=>if tyOf d t=some .bool/\agOf d t=false then some (true,Z0y .bool ((a:Bool)==b)) else none
 |.neq,⟨.bool,false,a,_⟩,⟨.bool,false,b,_⟩=>if tyOf d t=some .bool/\agOf d t=false then some (true,Z0y .bool (!((a:Bool)==b))) else none
 |_,_,_=>none
def Z41 (b:List (TypeId×Ty×List TypeId)):Nat->TypeId->Bool
 | 0,_=>false
 |n+1,t=>match Z0o b t with
  |some (.int _,[])=>true
  |some (.bool,[])=>true
  |some (.str,[])=>true
  |some (_,a::l)=>Z41 b n a&&l.all (Z41 b n)
  |_=>false
def eqV (d:List (TypeId×Ty×List TypeId))(t:TypeId)(e:BinOp)(u v:TVal):Option (Bool×TVal):=
 if Z41 d 20 t&&agOf d t&&decide (tyOf d t=some u.τ) then
  (if h:v.τ=u.τ then
   (match Z40 u.τ u.x (h ▸ v.x)with
    |some b=>(match e with
     |.eql=>some (true,Z0y .bool b)
     |.neq=>some (true,Z0y .bool (!b))
     |_=>none)
    |none=>none)
   else none)
 else none
def Z5l:TVal->Option Int
 |⟨.int .i64,false,n,_⟩=>some n
 |⟨.int .u8,false,n,_⟩=>some n
 |_=>none
def Z5m (σ:State)(o:Option Operand)(d:Int):Option Int:=
 match o with
 |none=>some d
 |some o=>match σ.look o with | some v=>Z5l v | none=>none
def Z0l (d:List (TypeId×Ty×List TypeId))(σ:State):Op->Option (Bool×TV)
 |.move x=>match σ.peek x with | .dead=>none | .un=>none | .tup _ ags=>(match x with | .tmp t=>some (true,.tref t ags) | _=>none) | tv=>some (true,tv)
 |.unOp .neg _ x=>match σ.look x with | some ⟨.int a,false,n,_⟩=>some (true,.val (Z0y (.int a) (a.wrap (0-n)))) | _=>none
 |.unOp .not _ x=>match σ.look x with | some ⟨.bool,false,b,_⟩=>some (true,.val (Z0y .bool (!b))) | _=>none
 |.binOp C t x y _=>match σ.look x,σ.look y with | some u,some v=>(if u.ag&&v.ag then eqV d t C u v else Z97 d t C u v).map λr=>(r.1,.val r.2) | _,_=>none
 |.convert s t x=>
  if agOf d s||agOf d t then none else
  match tyOf d s,tyOf d t,σ.look x with
  |some (.int _),some (.int j),some ⟨.int _,false,n,_⟩=>some (true,.val (Z0y (.int j) (j.wrap n)))
  |some .str,some .str,some ⟨.str,false,b,_⟩=>some (true,.val (Z0y .str b))
  |some (.slice (.int .u8)),some .str,some ⟨.slice (.int .u8),false,l,_⟩=>some (true,.val (Z0y .str (Z3A l)))
  |_,_,_=>none
 |.nilCheck x=>match σ.peek x with
  |.ptr p=>if (σ.getAt p).isSome then some (true,.ptr p) else none
  |.eptr v t=>some (true,.eptr v t)
  |.eref p=>if (σ.getAt p).isSome then some (true,.eref p) else none
  |.clos f D=>some (true,.clos f D)
  |.sptr r τ p=>some (true,.sptr r τ p)
  |.sclos f E v=>some (true,.sclos f E v)
  |_=>none
 |.makeFunc (.func f) first h=>
  if first.isEmpty then
   (match (h.toList.map σ.peek).foldr (λtv z=>match tv,z with | .ptr p,some l=>some (p::l) | _,_=>none) (some [])with
    |some l=>some (true,.clos f l)
    |none=>none)
  else none
 |.load t x=>
  match tyOf d t,σ.peek x with
  |some τ,.ptr p=>match σ.getAt p with
   |some v=>if v.τ=τ then (Z35 σ p (agOf d t)).map λtv=>(true,tv) else none
   |none=>none
  |some τ,.eref p=>match σ.getAt p with
   |some v=>if v.τ=τ then (Z35 σ p (agOf d t)).map λtv=>(true,tv) else none
   |none=>none
  |some τ,.eptr v _=>if v.τ=τ then some (true,.val { v.alias with ag:=agOf d t }) else none
  |some τ,.sptr r w p=>match σ.slot r with
   |.val c=>if c.τ=w then (match σ.getAt ⟨false,r,p⟩with
    |some v=>if v.τ=τ then (Z35 σ ⟨false,r,p⟩ (agOf d t)).map λtv=>(true,tv) else none
    |none=>none) else none
   |_=>none
  |_,_=>none
 |.slice t x B A none=>
  match tyOf d t,σ.look x with
  |some .str,some ⟨.str,false,s,_⟩=>
   if agOf d t then none else (match Z5m σ B 0,Z5m σ A (ByteArray.size s)with
    |some i,some j=>some (Z8d i j (ByteArray.size s),.val (Z0y .str (ByteArray.extract s i.toNat j.toNat)))
    |_,_=>none)
  |some (.slice k),some ⟨.slice e,false,l,tg⟩=>
   if k=e/\agOf d t=false then
    (match Z5m σ B 0,Z5m σ A (List.length (α:=El e) l)with
     |some i,some j=>some (Z8d i j (List.length (α:=El e) l),.val ⟨.slice e,false,sub (α:=El e) l i j,tg⟩)
     |_,_=>none)
   else none
  |_,_=>none
 |.fieldAddr t x i=>
  match Z4d d t i,σ.peek x with
  |some q,.ptr p=>(match σ.getAt p with
   |some u=>if tyOf d t=some u.τ then some (true,.ptr { p with path:=p.path++q }) else none
   |none=>none)
  |some q,.eref p=>(match σ.getAt p with
   |some u=>if tyOf d t=some u.τ then some (true,.eref { p with path:=p.path++q }) else none
   |none=>none)
  |some q,.eptr v g=>if tyOf d t=some v.τ then (Z04 v.τ v.x v.tg q).map λu=>(true,.eptr u g) else none
  |some q,.sptr r w p=>if tyOf d t=Z0d w p then some (true,.sptr r w (p++q)) else none
  |_,_=>none
 |.field t x i=>
  match Z4d d t i,σ.peek x with
  |some q,.ref p true=>(match σ.getAt p with
   |some u=>if tyOf d t=some u.τ then (Z35 σ { p with path:=p.path++q } (Z2w d t i)).map λtv=>(true,tv) else none
   |none=>none)
  |some q,.val ⟨τ,true,y,tg⟩=>if tyOf d t=some τ then (Z04 τ y tg q).map λu=>(true,.val { u with ag:=Z2w d t i }) else none
  |_,_=>none
 |.indexAddr t x i=>
  match tyOf d t,σ.peek x,σ.look i with
  |some (.slice k),.ref p false,some n=>match σ.getAt p,Z5l n with
   |some ⟨.slice e,_,l,_⟩,some n=>if k=e/\agOf d t=false then some (inb n (List.length (α:=El e) l),.eref { p with path:=p.path++[.idx n.toNat] }) else none
   |_,_=>none
  |some (.slice k),.val ⟨.slice e,false,l,tg⟩,some n=>match Z5l n with
   |some n=>if k=e/\agOf d t=false then some (inb n (List.length (α:=El e) l),.eptr ⟨e,false,List.getD (α:=El e) l n.toNat (zero e),List.replicate (Z06 e) (tg.headD .N).inner⟩ (tg.headD .N)) else none
   |none=>none
  |_,_,_=>none
 |.index t x i=>
  match tyOf d t,σ.look x,σ.look i with
  |some .str,some ⟨.str,false,s,_⟩,some n=>match Z5l n with
   |some n=>if agOf d t then none else some (inb n (ByteArray.size s),.val (Z0y (.int .u8) (bt s n)))
   |none=>none
  |_,_,_=>none
 |.extract (.tmp t) i=>
  match σ.slot t with
  |.tup v ags=>if i<ags.length then (Z35 σ ⟨false,t,Z0a ags.length i⟩ (Z0u false ags i)).map λtv=>(true,tv) else none
  |.tref t' ags=>if i<ags.length then (Z35 σ ⟨false,t',Z0a ags.length i⟩ (Z0u false ags i)).map λtv=>(true,tv) else none
  |_=>none
 |.call c=>
  match c.callee,c.args.toList,c.argTypes.toList with
  |.builtin .len,[x],[t]=>
   (match tyOf d t,σ.look x with
    |some .str,some ⟨.str,false,s,_⟩=>if agOf d t then none else some (true,.val (Z0y (.int .i64) (ByteArray.size s:Int)))
    |some (.slice _),some ⟨.slice e,false,l,_⟩=>if agOf d t then none else some (true,.val (Z0y (.int .i64) ((List.length (α:=El e) l:Nat):Int)))
    |_,_=>none)
  |.builtin .max,[x,y],_=>
   (match σ.look x,σ.look y with
    |some ⟨.int a,false,m,_⟩,some ⟨.int b,false,n,_⟩=>if a=b then some (true,.val (Z0y (.int a) (mxI m n))) else none
    |_,_=>none)
  |.builtin .min,[x,y],_=>
   (match σ.look x,σ.look y with
    |some ⟨.int a,false,m,_⟩,some ⟨.int b,false,n,_⟩=>if a=b then some (true,.val (Z0y (.int a) (mnI m n))) else none
    |_,_=>none)
  |_,_,_=>none
 |_=>none
def Z5q (b:List (TypeId×Ty×List TypeId)):Op->Bool
 |.move _ | .unOp .. | .binOp .. | .nilCheck _ | .makeFunc .. | .load .. | .slice .. | .fieldAddr .. | .field .. | .indexAddr .. | .index .. | .extract .. => true
 |.convert _ t _=>match tyOf b t with | some (.slice _)=>false | _=>true
 |.call c=>match c.callee with | .builtin .len | .builtin .max | .builtin .min=>true | _=>false
 |_=>false
section
variable {R:Type}
def Z6W (n:Nat):List (Nat×Operand)->TVal->State->(TVal->State->Option R)->Option R
 | [],v,σ,k=>k v σ
 |(i,o)::rest,v,σ,k=>
  match Z04 v.τ v.x v.tg (Z0a n i)with
  |some u=>match σ.take o u.τ with
   |some (w,σ')=>match Z0I v.τ v.x v.tg (Z0a n i) w with
    |some r=>Z6W n rest ⟨v.τ,v.ag,r.1,r.2⟩ σ' k
    |none=>none
   |none=>none
  |none=>none
def Z4y (v:TVal):Tag:=v.tg.foldr Tag.meet .O
def Z7s (e:Ty):List (Nat×Operand)->Nat->List (El e)->Tag->State->(List (El e)->Tag->State->Option R)->Option R
 | [],_,b,t,σ,k=>k b.reverse t σ
 |(j,o)::rest,i,b,t,σ,k=>
  if i==j then
   match σ.take o e with
   |some (v,σ')=>match Z2G e v with
    |some x=>Z7s e rest (i+1) (x::b) (t.meet (Z4y v)) σ' k
    |none=>none
   |none=>none
  else none
def Z7X (b:List (TypeId×Ty×List TypeId))(g d:TypeId)(s x:Operand)(σ:State)(k:TV->State->Option R):Option R:=
 match tyOf b g with
 |some (.slice e)=>
  match σ.take s (.slice e)with
  |some (v,f)=>
   match Z2G (.slice e) v,v.tg with
   |some l,[t]=>
    if t.own&& !v.ag&& !agOf b g then
     match tyOf b d with
     |some (.slice h)=>
      match f.take x (.slice e)with
      |some (u,σ2)=>match Z2G (.slice e) u,u.tg with
       |some m,[t']=>if u.ag||agOf b d then none else
         bif lim (List.length (α:=El e) l+List.length (α:=El e) m) then
         k (.val ⟨.slice e,false,(l:List (El e))++m,[(if Z06 e==0 then Tag.O else t.inner.meet t'.inner).over]⟩) σ2 else none
       |_,_=>none
      |none=>none
     |some .str=>
      match f.look x with
      |some ⟨.str,false,s,_⟩=>if agOf b d then none else (match Z2G (.slice e) ⟨.slice (.int .u8),false,Z1m s,[]⟩with
       |some m=>bif lim (List.length (α:=El e) l+ByteArray.size s) then k (.val ⟨.slice e,false,(l:List (El e))++m,[.O]⟩) f else none
       |none=>none)
      |_=>none
     |_=>none
    else none
   |_,_=>none
  |none=>none
 |_=>none
structure Args where
 vals:List TVal
 lent:List Nat
 writes:Bool
def Place.whole (p:Place):Bool:=p.box&&p.path.isEmpty
def Z0n:List Mode->List Operand->State->Args->(Args->State->Option R)->Option R
 | [],[],σ,a,k=>k a σ
 |.borrow τ ag::ms,o::b,σ,a,k=>
  match σ.slotOf o with
  |some (t,u)=>
   if u.τ=τ/\u.ag=ag then Z0n ms b { σ with slots:=Z0G σ.slots t (.val u.freeze) } { a with vals:=a.vals++[u.freeze] } k
   else none
  |none=>
   match σ.lookAs o τ with
   |some v=>if v.τ=τ/\v.ag=ag then Z0n ms b σ { a with vals:=a.vals++[v] } k else none
   |none=>none
 |.consume τ ag::ms,o::b,σ,a,k=>
  match σ.take o τ with
  |some (v,σ')=>if v.tg.all Tag.own&&v.noN&&v.ag==ag then Z0n ms b σ' { a with vals:=a.vals++[v],writes:=true } k else none
  |none=>none
 |.eat τ ag::ms,o::b,σ,a,k=>
  match σ.take o τ with
  |some (v,σ')=>if v.allO&&v.ag==ag then Z0n ms b σ' { a with vals:=a.vals++[v],writes:=true } k else none
  |none=>none
 |.ptr τ::ms,o::b,σ,a,k=>
  match σ.peek o with
  |.ptr p=>if p.whole then Z0n ms b σ { a with lent:=a.lent++[p.root],writes:=true } k else none
  |_=>none
 |.clos f e::ms,o::b,σ,a,k=>
  match σ.peek o with
  |.clos g d=>if g==f&&d.length==e.length&&d.all Place.whole then Z0n ms b σ { a with lent:=a.lent++d.map (·.root),writes:=a.writes|| !d.isEmpty } k else none
  |_=>none
 |_,_,_,_,_=>none
def State.boxesAt (σ:State):List Nat->Option (List TVal)
 | []=>some []
 |r::rs=>match σ.boxAt r,σ.boxesAt rs with | some v,some l=>some (v::l) | _,_=>none
def State.putBoxes (σ:State):List Nat->List TVal->State
 |r::rs,v::vs=>((σ.loosen true r).putBox r (some v)).putBoxes rs vs
 |_,_=>σ
def Z4i:List Nat->Bool
 | []=>true
 |a::l=> !l.contains a&&Z4i l
def Tag.back (b:Bool):Tag->Tag
 |.O=> .O
 |.PS=>if b then .PS else .PN
 |.PN=> .PN
 |.S=>if b then .S else .N
 |.N=> .N
def TVal.back (b:Bool)(v:TVal):TVal:={ v with tg:=v.tg.map (Tag.back b) }
def Z22 (fz:Bool)(l:List TVal):List TVal:=if !fz&&l.all TVal.noN then l else l.map λv=>{ v with tg:=v.tg.map λ_=>Tag.S }
def Z2p:List TVal->TVal
 | []=>Z0y .unit ()
 | [v]=>v
 |v::vs=>let u:=Z2p vs;⟨.pair v.τ u.τ,false,(v.x,u.x),v.tg++u.tg⟩
def Mode.isPtr:Mode->Bool
 |.ptr _=>true
 |_=>false
def Mode.isBorrow:Mode->Bool
 |.borrow .. => true
 |_=>false
def Mode.noLend:Mode->Bool
 |.borrow .. | .eat .. | .consume .. => true
 |_=>false
def Mode.isSee:Mode->Bool
 |.look .. => true
 |_=>false
def Mode.isLook:Mode->Bool
 |.look .. | .rptr _ | .rclos .. => true
 |_=>false
def Z5r (τ:Ty)(x:El τ):TVal:=⟨τ,false,x,List.replicate (Z06 τ) .S⟩
def Z4m:List Ty->(τ:Ty)->El τ->Option (List TVal)
 | [],_,_=>some []
 | [d],τ,x=>if τ=d then some [Z5r τ x] else none
 |d::e::f,.pair a b,x=>if a=d then (Z4m (e::f) b x.2).map λl=>Z5r a x.1::l else none
 |_,_,_=>none
def Z6X:List TVal->TVal
 | []=>Z0y .unit ()
 | [v]=>Z5r v.τ v.x
 |v::vs=>let u:=Z6X vs;Z5r (.pair v.τ u.τ) (v.x,u.x)
def State.ptrVal (σ:State)(o:Operand):Option TVal:=
 match σ.peek o with
 |.ptr p=>σ.getAt p
 |.eref p=>σ.getAt p
 |.eptr u _=>some u
 |_=>none
def State.placesVal (σ:State):List Place->Option (List TVal)
 | []=>some []
 |p::b=>match σ.getAt p,σ.placesVal b with | some v,some l=>some (v::l) | _,_=>none
def Z18:List Mode->List Operand->State->Option (List TVal)
 | [],[],_=>some []
 |.look τ ag::ms,o::b,σ=>
  match σ.lookAs o τ with
  |some v=>if v.τ=τ/\v.ag=ag then (Z18 ms b σ).map λl=>v::l else none
  |none=>none
 |.rptr τ::ms,o::b,σ=>
  match σ.ptrVal o with
  |some v=>if v.τ=τ then (Z18 ms b σ).map λl=>v::l else none
  |none=>none
 |.rclos f e::ms,o::b,σ=>
  match σ.peek o with
  |.clos g h=>(match σ.placesVal h with
   |some vs=>if g==f&&decide (vs.map (·.τ)=e) then (Z18 ms b σ).map λl=>Z6X vs::l else none
   |none=>none)
  |.sclos g d v=>if g==f&&decide (d=e) then (Z18 ms b σ).map λl=>v::l else none
  |_=>none
 |_,_,_=>none
def Z1t:List Mode->List TVal->Bool
 | [],[]=>true
 |.rptr τ::ms,v::vs=>decide (v.τ=τ)&&Z1t ms vs
 |_,_=>false
def Z6V (b:Sig R)(h:List Operand)(d:List TVal)(σ:State)(k:TV->State->Option R):Option R:=
 match Z18 (b.modes.take h.length) h σ with
 |some vals=>if Z1t (b.modes.drop h.length) d then b.run (vals++d) [] λf g e=>
   if g.isEmpty&&e.isEmpty&&f.all (λv=>Z06 v.τ==0) then
    (match f with
     | []=>k .dead σ
     | [r]=>k (.val r) σ
     |rs=>k (.tup (Z2p rs) (rs.map (·.ag))) σ) else none
  else none
 |none=>none
def Z88 (d:Sig R)(g:List Operand)(h:List Place)(σ:State)(k:TV->State->Option R):Option R:=
 if (d.modes.drop g.length).length==h.length&&(d.modes.drop g.length).all Mode.isPtr&&h.all Place.whole then
 Z0n (d.modes.take g.length) g σ ⟨[],[],!h.isEmpty⟩ λa l=>
  let b:=a.lent++h.map (·.root)
  if Z4i b&&(!a.writes||a.vals.all λv=>v.noN) then
   match l.boxesAt b with
   |some ext=>if ext.all TVal.noN then d.run a.vals ext λj i f=>
     let e:=a.writes||a.vals.all TVal.noN
     let σ2:=if a.writes then l.renil.kill else l
     let m:=σ2.putBoxes b f
     if i.isEmpty then
      (match j.map (TVal.back e)with
       | []=>k .dead m
       | [r]=>k (.val r) m
       |rs=>k (.tup (Z2p rs) (rs.map (·.ag))) m) else none
    else none
   |none=>none
  else none
 else none
def Z8u (np:Nat)(σ:State)(x:Operand)(τ:Ty):Option Nat:=
 match x with
 |.tmp r=>match σ.slot r with
  |.val u=>if decide (r<np)&&decide (u.τ=τ)&&u.anyOwn then some r else none
  |_=>none
 |_=>none
def Z8N (np d:Nat):Bool:=decide (np<=d)
def State.empty (σ:State)(i:Nat):State:=σ.put i .dead
def State.hold (σ:State)(p:Place):State:=
 match p.box with
 |true=>(σ.loosen true p.root).putBox p.root none
 |false=>σ.empty p.root
def State.refill (σ:State)(p:Place)(v:TVal):State:=
 match p.box with
 |true=>(σ.loosen true p.root).putBox p.root (some v)
 |false=>σ.put p.root (.val v)
def Z1q:List Mode->List Operand->State->Option (List TVal)
 | [],[],_=>some []
 |.borrow τ ag::ms,o::b,σ=>
  match σ.look o with
  |some v=>if decide (v.τ=τ)&&v.ag==ag&&Z06 τ==0 then (Z1q ms b σ).map λl=>v::l else none
  |none=>none
 |_,_,_=>none
def Z5R (f:Sig R)(τ:Ty)(ag:Bool)(ms:List Mode)(o:Operand)(i:List Operand)(σ:State)(k:TV->State->Option R):Option R:=
 match σ.peek o with
 |.ref p b=>
  match σ.content p,σ.getAt p,Z1q ms i σ with
  |some c,some u,some vs=>
   if decide (u.τ=τ)&&b==ag&&c.allO&&u.allO&&(p.box||(σ.slot p.root).isVal) then
    f.run ({ u with ag:=ag }::vs) [] λe d h=>
     match d with
     | [j]=>(match Z0I c.τ c.x c.tg p.path j with
      |some r=>let g:=(σ.hold p).kill.refill p ⟨c.τ,c.ag,r.1,r.2⟩
       (match e with
        | []=>k .dead g
        | [r]=>k (.val r) g
        |rs=>k (.tup (Z2p rs) (rs.map (·.ag))) g)
      |none=>none)
     |_=>none
   else none
  |_,_,_=>none
 |_=>none
def Z2K:List Step->Bool
 | []=>true
 |.idx _::p=>Z08 p
 |_::p=>Z2K p
def Z4f (p:Place):TV->Bool
 |.ref q _=> !Z08 p.path&&(q.box==p.box&&q.root==p.root&&Z08 q.path)
 |.eref q=> !Z08 p.path&&(q.box==p.box&&q.root==p.root&&Z2K q.path)
 |_=>false
def Z0V (p:Place):List TV->Nat->State->State
 | [],_,σ=>σ
 |t::l,i,σ=>Z0V p l (i+1) (match σ.slot i with | .dead=>if Z4f p t then σ.put i t else σ | _=>σ)
def Z5b (σ:State)(p:Place):Bool:=p.box||(σ.slot p.root).isVal
def Z9n (i j:Nat):Bool:=Nat.beq i j
def Z3x:List Step->List Step->Bool
 | [],[]=>true
 |.fst::p,.fst::q=>Z3x p q
 |.snd::p,.snd::q=>Z3x p q
 |.idx i::p,.idx j::q=>Z9n i j&&Z3x p q
 |_,_=>false
def Z7l:Op->Bool
 |.move _ | .nilCheck _ | .fieldAddr .. | .indexAddr .. => true
 |_=>false
def Z4W (i:Nat):Option Nat->Bool
 |some j=> !(j==i)
 |none=>true
def Z33 (d:Nat)(p:Place):List Oper->Bool
 | []=>false
 | [o]=>(match o.op with | .store _ _ (.tmp t)=>t==d | _=>false)&&o.guard.isNone&&o.dst.isNone
 |o::l=>Z7l o.op&&o.guard.isNone&&Z4W d o.dst&&(p.box||Z4W p.root o.dst)&&Z33 d p l
def Z6h (b:List (TypeId×Ty×List TypeId))(f g:TypeId)(p:Place)(x:Operand)(σ:State)(k:State->Option R):Option R:=
 match tyOf b f,tyOf b g with
 |some (.slice e),some (.slice _)=>
  match σ.take x (.slice e)with
  |some (u,σ2)=>
   match Z2G (.slice e) u,u.tg,σ2.content p,σ2.getAt p with
   |some m,[t'],some c,some v=>
    match Z2G (.slice e) v with
    |some l=>if c.allO&&Z5b σ2 p&&(t'.isO||(Z06 e==0&& !t'.isN))&& !u.ag&& !agOf b f&& !agOf b g then
      bif lim (List.length (α:=El e) l+List.length (α:=El e) m) then
       (match Z0I c.τ c.x c.tg p.path ⟨.slice e,false,(l:List (El e))++m,[.O]⟩with
        |some d=>k (Z0V p σ2.slots 0 ((σ2.hold p).kill.refill p ⟨c.τ,c.ag,d.1,d.2⟩))
        |none=>none)
      else none
     else none
    |none=>none
   |_,_,_,_=>none
  |none=>none
 |_,_=>none
def Z89 (g:Sig R)(τ:Ty)(ms:List Mode)(p:Place)(i:List Operand)(σ:State)(k:State->Option R):Option R:=
 Z0n ms i σ ⟨[],[],true⟩ λa b=>
  match b.content p,b.getAt p with
  |some c,some u=>
   if decide (u.τ=τ)&&c.allO&&u.allO&&Z5b b p&&Z4i a.lent&&a.vals.all TVal.noN then
    match (b.hold p).boxesAt a.lent with
    |some ext=>if ext.all TVal.noN then g.run ({ u with ag:=false }::a.vals) ext λf e d=>
      match f,e with
      | [v],[]=>if decide (v.τ=τ)&&v.ag==false&&v.allO then
        (match Z0I c.τ c.x c.tg p.path v with
         |some h=>k (Z0V p b.slots 0 (((b.hold p).renil.kill.putBoxes a.lent d).refill p ⟨c.τ,c.ag,h.1,h.2⟩))
         |none=>none)
       else none
      |_,_=>none
     else none
    |none=>none
   else none
  |_,_=>none
def Z5W (Γ:Env R)(σ:State)(o:Oper)(rest:List Oper):Option (Nat×Place):=
 match o.dst,o.guard,o.op with
 |some d,none,.call c=>
  match c.args.toList with
  |s::_=>
   match σ.peek s with
   |.ref p false=>
    if Z33 d p rest then
     match σ.content p with
     |some e=>if e.allO&&Z5b σ p&&Z2K p.path&&decide (d<σ.slots.length)&&Z8N Γ.np d&&(p.box|| !(d==p.root)) then
       (match c.callee with
        |.builtin .append=>if Z08 p.path then none else some (d,p)
        |.value f=>(match σ.peek f with
         |.clos g []=>(match Z0o Γ.fns g with
          |some b=>(match b.modes with
           |.eat (.slice _) false::_=>if Z08 p.path&& !p.box then none else some (d,p)
           |_=>none)
          |none=>none)
         |_=>none)
        |_=>none) else none
     |none=>none
    else none
   |_=>none
  | []=>none
 |_,_,_=>none
def Z0L (Γ:Env R)(d:Option Nat)(w:TypeId)(σ:State)(k:TV->State->Option R):Op->Option R
 |.assign x=>
  match σ.peek x with
  |.val v=>k (.val v) σ
  |.ref p ag=>(match σ.getAt p with
   |some u=>(match σ.take x u.τ with
    |some (v,σ')=>k (.val v) σ'
    |none=>none)
   |none=>none)
  |.nil=>(match tyOf Γ.tys w with
   |some (.slice e)=>k (.val ⟨.slice e,false,[],[.O]⟩) σ
   |_=>none)
  |.dead=>none
  |.un=>none
  |.tup .. => none
  |tv=>k tv σ
 |.alloc t=>
  match d,tyOf Γ.tys t with
  |some i,some τ=>if i<σ.slots.length then k (.ptr ⟨true,i,[]⟩) (((σ.loosen true i).unpoint i).putBox i (some ⟨τ,false,zero τ,List.replicate (Z06 τ) .O⟩)) else none
  |_,_=>none
 |.box t x=>
  match d,tyOf Γ.tys t with
  |some i,some τ=>match Z8u Γ.np σ x τ with
   |some r=>k (.sptr r τ []) σ
   |none=>match σ.take x τ with
    |some (v,σ')=>if i<σ'.slots.length then k (.ptr ⟨true,i,[]⟩) (((σ'.loosen true i).unpoint i).putBox i (some v)) else none
    |none=>none
  |_,_=>none
 |.build t j=>
  match Z0o Γ.tys t with
  |some (τ,l)=>if l.isEmpty|| !(j.toList.all λp=>decide (p.1<l.length)) then none else Z6W l.length j.toList ⟨τ,true,zero τ,List.replicate (Z06 τ) .O⟩ σ λv σ'=>k (.val v) σ'
  |none=>none
 |.buildSlice t n j=>
  match tyOf Γ.tys t with
  |some (.slice e)=>if j.size==n&& !agOf Γ.tys t&&decide (n * size e<=16777216) then Z7s e j.toList 0 [] .O σ λl tg σ'=>k (.val ⟨.slice e,false,l,[tg.over]⟩) σ' else none
  |_=>none
 |.store t a x=>
  match tyOf Γ.tys t,σ.peek a with
  |some τ,.ptr p=>match σ.take x τ with
   |some (v,σ')=>(match (σ'.loosen true p.root).setAt p v with
    |some q=>k .dead q
    |none=>none)
   |none=>none
  |some τ,.eref p=>match σ.take x τ with
   |some (v,σ')=>if v.allO&& !Z08 p.path&&(p.box||(σ'.slot p.root).isVal) then
     (match (σ'.content p)with
      |some r=>if r.allO then
        (match ((σ'.loosen p.box p.root).kill.setAt p v)with
        |some q=>k .dead (Z0V p σ'.slots 0 q)
        |none=>none) else none
      |none=>none) else none
   |none=>none
  |_,_=>none
 |.convert s t x=>
  if agOf Γ.tys s||agOf Γ.tys t then none else
  match tyOf Γ.tys s,tyOf Γ.tys t,σ.look x with
  |some .str,some (.slice (.int .u8)),some ⟨.str,false,b,_⟩=>bif lim (ByteArray.size b) then k (.val ⟨.slice (.int .u8),false,Z1m b,[.O]⟩) σ else none
  |_,_,_=>none
 |.makeSlice t n c=>
  if agOf Γ.tys t then none else
  match tyOf Γ.tys t,σ.look n,σ.look c with
  |some (.slice e),some ⟨.int .i64,false,m,_⟩,some ⟨.int .i64,false,z,_⟩=>
   bif decide ((0:Int)<=m/\(m:Int)<=z/\(z:Int)<=(LIM:Int)) then k (.val ⟨.slice e,false,List.replicate (Int.toNat m) (zero e),[.O]⟩) σ else none
  |_,_,_=>none
 |.call c=>
  match c.callee with
  |.builtin .append=>
   (match c.args.toList,c.argTypes.toList with
    | [s,x],[A,B]=>Z7X Γ.tys A B s x σ k
    |_,_=>none)
  |.value f=>
   (match σ.peek f with
    |.clos g j=>(match Z0o Γ.fns g with
     |some h=>if h.modes.all Mode.isLook&& !h.modes.isEmpty then
       (match σ.placesVal j with
       |some vs=>Z6V h c.args.toList vs σ k
       |none=>none)
      else (match h.modes,c.args.toList,j with
      |.inout τ ag::ms,o::y,[]=>Z5R h τ ag ms o y σ k
      |_,y,j=>Z88 h y j σ k)
     |none=>none)
    |.sclos g C v=>(match Z0o Γ.fns g,Z4m C v.τ v.x with
     |some h,some vs=>if h.modes.all Mode.isLook&& !h.modes.isEmpty then Z6V h c.args.toList vs σ k else none
     |_,_=>none)
    |_=>none)
  |_=>none
 |_=>none
def opC (Γ:Env R)(d:Option Nat)(b:TypeId)(σ:State)(k:TV->State->Option R)(e:Op):Option R:=
 match Z0l Γ.tys σ e with
 |some (g,tv)=>bif g then k tv σ else none
 |none=>Z0L Γ d b σ k e
def Z4E (Γ:Env R)(o:Oper)(σ:State)(k:State->Option R):Option R:=
 match o.op with
 |.pick c a b=>
  match σ.look c with
  |some ⟨.bool,false,t,_⟩=>
   bif t then (match Z0l Γ.tys σ (.move a)with | some (_,tv)=>k (σ.puto o.dst tv) | none=>none)
   else (match Z0l Γ.tys σ (.move b)with | some (_,tv)=>k (σ.puto o.dst tv) | none=>none)
  |_=>none
 |d=>opC Γ o.dst o.type σ (λtv σ'=>k (σ'.puto o.dst tv)) d
def State.know (σ:State)(g:Nat)(b:Bool):State:={ σ with slots:=Z0G σ.slots g (.val (Z0y .bool b)) }
def Z4D (np:Nat)(d:Option Nat):Bool:=match d with | some i=>decide (np<=i) | none=>true
def Z1v (Γ:Env R)(e:List Oper)(o:Oper)(σ:State)(k:State->Option R):Option R:=
 if Z4D Γ.np o.dst then
  match o.guard with
  |none=>Z4E Γ o σ k
  |some (j,d)=>
   match (e[j]?).bind (·.dst)with
   |some g=>
    match σ.slot g with
    |.val ⟨.bool,false,b,_⟩=>
     bif b then (if d then Z4E Γ o (σ.know g true) k else k ((σ.know g true).puto o.dst .un))
     else (if d then k ((σ.know g false).puto o.dst .un) else Z4E Γ o (σ.know g false) k)
    |.un=>k (σ.puto o.dst .un)
    |_=>none
   |none=>none
 else none
def Z4I (Γ:Env R)(p:Place):List Oper->State->(State->Option R)->Option R
 | [],_,_=>none
 | [o],σ,k=>
  match o.op with
  |.store t y _=>(match tyOf Γ.tys t,σ.peek y with
   |some (.slice _),.eref q=>if q.box==p.box&&q.root==p.root&& !agOf Γ.tys t then bif Z3x q.path p.path then k σ else none else none
   |some (.slice _),.ptr q=>if q.box==p.box&&q.root==p.root&& !agOf Γ.tys t then bif Z3x q.path p.path then k σ else none else none
   |_,_=>none)
  |_=>none
 |o::l,σ,k=>
  if Z4D Γ.np o.dst then
   (match Z0l Γ.tys σ o.op with
    |some (g,tv)=>bif g then Z4I Γ p l (σ.puto o.dst tv) k else none
    |none=>none)
  else none
def Z8o (Γ:Env R)(d:Nat)(p:Place)(o:Oper)(σ:State)(k:State->Option R):Option R:=
 match o.op with
 |.call c=>
  match c.callee with
  |.builtin .append=>
   (match c.args.toList,c.argTypes.toList with
    | [_,x],[i,j]=>Z6h Γ.tys i j p x σ λσ'=>k (σ'.puto (some d) .dead)
    |_,_=>none)
  |.value f=>
   (match σ.peek f with
    |.clos g []=>(match Z0o Γ.fns g with
     |some b=>(match b.modes,c.args.toList with
      |.eat (.slice e) false::ms,_::h=>Z89 b (.slice e) ms p h σ λσ'=>k (σ'.puto (some d) .dead)
      |_,_=>none)
     |none=>none)
    |_=>none)
  |_=>none
 |_=>none
def Z4l (Γ:Env R)(d:Nat)(p:Place)(o:Oper)(rest:List Oper)(σ:State)(k:State->Option R):Option R:=
 Z8o Γ d p o σ λσ'=>Z4I Γ p rest σ' k
def Z5o:Op->Bool
 |.call c=>(match c.callee with | .builtin .append=>true | .value _=>true | _=>false)
 |_=>false
def Z1l (b:List Oper):List Nat->Option (List Oper)
 | []=>some []
 |i::l=>match b[i]?,Z1l b l with | some o,some r=>some (o::r) | _,_=>none
def Z5I (Γ:Env R)(b:List Oper):List Nat->State->(State->Option R)->Option R
 | [],σ,k=>k σ
 |i::rest,σ,k=>
  match b[i]? with
  |some o=>
   if Z5o o.op then
    (match (Z1l b rest).bind (Z5W Γ σ o)with
     |some (d,p)=>(match Z1l b rest with | some l=>Z4l Γ d p o l σ k | none=>none)
     |none=>Z1v Γ b o σ λσ'=>Z5I Γ b rest σ' k)
   else Z1v Γ b o σ λσ'=>Z5I Γ b rest σ' k
  |none=>none
def Z1z (Γ:Env R)(d:Op):Bool:=
 match d with
 |.store .. => false
 |.call c=>match c.callee with
  |.value (.func f)=>match Z0o Γ.fns f with
   |some b=>b.modes.all Mode.isBorrow||(b.modes.all Mode.isSee&& !b.modes.isEmpty)
   |none=>false
  |.value _=>false
  |_=>true
 |_=>true
def Z1M (Γ:Env R)(d:Op):Bool:=
 match d with
 |.store .. => false
 |.call c=>match c.callee with
  |.value (.func f)=>match Z0o Γ.fns f with
   |some b=>b.modes.all Mode.noLend||(b.modes.all Mode.isSee&& !b.modes.isEmpty)
   |none=>false
  |.value _=>false
  |_=>true
 |_=>true
def Z2d (σ:State):Op->Bool
 |.load _ x=>match σ.peek x with | .ptr _=>true | _=>false
 |.convert _ _ x=>match σ.peek x with | .val ⟨.int _,_,_,_⟩=>true | _=>false
 |_=>true
def Z1y (d:List (TypeId×Ty×List TypeId))(b:Op):Bool:=match b with | .pick .. => true | b=>Z5q d b
inductive Plan where
 |done
 |go (i:Nat) (p:Plan)
 |gob (i:Nat) (p:Plan)
 |alt (i:Nat) (p q:Plan)
def Z86 (x y:Option R):Option R:=match x with | some _=>y | none=>none
def Z4Q (f:Nat->Option Plan):List Nat->Option Plan
 | []=>some .done
 | [i]=>(f i).map (.go i)
 |i::l=>match f i,Z4Q f l with | some p,some q=>some (.alt i p q) | _,_=>none
def Z19 (Γ:Env R)(d:Array Oper):Nat->Array Bool->Option Plan
 | 0,b=>if (Region.ready .any d b).isEmpty then some .done else none
 |n+1,b=>
  let rs:=Region.ready .any d b
  match rs.find? (λi=>match d[i]? with
    |some o=>Z1y Γ.tys o.op&&Region.free .any d b i&&(List.range d.size).all λj=>j==i||b.getD j true ||
      (match d[j]? with | some f=>f.after.any (λe=>Region.binds .any e&&e.on==i)||Z1z Γ f.op | none=>true)
    |none=>false)with
  |some i=>(Z19 Γ d n (b.setIfInBounds i true)).map (.go i)
  |none=>
   match rs.find? (λi=>match d[i]? with
     |some o=>Z1y Γ.tys o.op&&Region.free .any d b i&&(List.range d.size).all λj=>j==i||b.getD j true ||
       (match d[j]? with | some f=>f.after.any (λe=>Region.binds .any e&&e.on==i)||Z1M Γ f.op | none=>true)
     |none=>false)with
   |some i=>(Z19 Γ d n (b.setIfInBounds i true)).map (.gob i)
   |none=>Z4Q (λi=>Z19 Γ d n (b.setIfInBounds i true)) rs
def Z11 (b:List Oper):Nat->Plan->Option (List Nat)
 |_,.done=>some []
 |i,.go j p=>match b[j]? with
  |some o=>if o.after.any (λe=>Region.binds .any e&&e.on==i) then (Z11 b j p).map (j:: ·) else none
  |none=>none
 |_,_=>none
def Z27 (Γ:Env R)(b:List Oper):Plan->State->(State->Option R)->Option R
 |.done,σ,k=>k σ
 |.go i p,σ,k=>
  match b[i]? with
  |some o=>
   if Z5o o.op then
    (match ((Z11 b i p).bind (Z1l b)).bind (Z5W Γ σ o)with
     |some (d,q)=>(match (Z11 b i p).bind (Z1l b)with | some l=>Z4l Γ d q o l σ k | none=>none)
     |none=>Z1v Γ b o σ λσ'=>Z27 Γ b p σ' k)
   else Z1v Γ b o σ λσ'=>Z27 Γ b p σ' k
  |none=>none
 |.gob i p,σ,k=>
  match b[i]? with
  |some o=>bif Z2d σ o.op then Z1v Γ b o σ λσ'=>Z27 Γ b p σ' k else none
  |none=>none
 |.alt i p q,σ,k=>
  match b[i]? with
  |some o=>Z86 (Z1v Γ b o σ λσ'=>Z27 Γ b p σ' k) (Z27 Γ b q σ k)
  |none=>none
inductive Ex where
 |normal | exit (id:Nat) | ret
abbrev Z82 (R:Type):=Ex->State->Option R
abbrev Z1c (R:Type):=State->Z82 R->Option R
inductive HT where
 |o | x (i:Nat) | t (a b:HT)
def HT.l:HT->HT
 |.t a _=>a
 |_=> .o
def HT.r:HT->HT
 |.t _ b=>b
 |_=> .o
def Z23:List Nat->Nat->List TV->List TV
 |_,_,[]=>[]
 |ks,i,tv::l=>(if ks.contains i then tv else .dead)::Z23 ks (i+1) l
def Z3c:List Nat->Nat->List (Option TVal)->List (Option TVal)
 |_,_,[]=>[]
 |ks,i,b::l=>(if ks.contains i then b else none)::Z3c ks (i+1) l
def State.forget (σ:State)(ks b:List Nat):State:=⟨Z23 ks 0 σ.slots,Z3c b 0 σ.boxes⟩
def Z3v (b:Z1c R)(d:State->State)(f:Ex->State->State):Nat->Z1c R
 | 0,_,_=>none
 |n+1,σ,k=>b σ λe σ'=>match e with
  |.normal=>Z3v b d f n (d σ') k
  |e=>k e (f e σ')
def Z0R (Γ:Env R)(X:List (Z1c R)):HT->Code->Z1c R
 |.x i,_=>λσ k=>Z0u (λ_ _=>none) X i σ k
 |_,.skip=>λσ k=>k .normal σ
 |_,.region _ d f=>λσ k=>
  if f then
   (match (if Region.noSelect d then Z19 Γ d d.size (Array.replicate d.size false) else none)with
    |some l=>Z27 Γ d.toList l σ λσ'=>k .normal σ'
    |none=>none)
  else Z5I Γ d.toList (List.range d.size) σ λσ'=>k .normal σ'
 |h,.seq a b=>λσ k=>Z0R Γ X h.l a σ λe σ'=>match e with
  |.normal=>Z0R Γ X h.r b σ' k
  |e=>k e σ'
 |h,.cond (.tmp t) a b=>λσ k=>
  match σ.slot t with
  |.val ⟨.bool,false,x,_⟩=>bif x then Z0R Γ X h.l a (σ.know t true) k else Z0R Γ X h.r b (σ.know t false) k
  |_=>none
 |h,.cond (.const (.bool x)) a b=>λσ k=>bif x then Z0R Γ X h.l a σ k else Z0R Γ X h.r b σ k
 |h,.block g c=>λσ k=>Z0R Γ X h.l c σ λe σ'=>match e with
  |.exit j=>if j==g then k .normal σ' else k (.exit j) σ'
  |e=>k e σ'
 |_,.exit g=>λσ k=>k (.exit g) σ
 |h,.scope c=>λσ k=>Z0R Γ X h.l c σ k
 |_,.ret=>λσ k=>k .ret σ
 |_,_=>λ_ _=>none
def Z0h (n:Nat):List Mode->List TVal->Nat->List TV
 |.borrow _ ag::ms,v::vs,j=> .val { v with ag:=ag,tg:=List.replicate (Z06 v.τ) .S }::Z0h n ms vs j
 |.consume _ ag::ms,v::vs,j=> .val { v with ag:=ag }::Z0h n ms vs j
 |.eat _ ag::ms,v::vs,j=> .val { v with ag:=ag }::Z0h n ms vs j
 |.inout _ ag::ms,v::vs,j=> .val { v with ag:=ag }::Z0h n ms vs j
 |.ptr _::ms,vs,j=> .ptr ⟨true,n+j,[]⟩::Z0h n ms vs (j+1)
 |.look _ ag::ms,v::vs,j=> .val { v with ag:=ag,tg:=List.replicate (Z06 v.τ) .S }::Z0h n ms vs j
 |.rptr _::ms,v::vs,j=> .eptr (Z5r v.τ v.x) .S::Z0h n ms vs j
 |.rclos f b::ms,v::vs,j=> .sclos f b (Z5r v.τ v.x)::Z0h n ms vs j
 |.clos f b::ms,vs,j=> .clos f ((List.range b.length).map λi=>⟨true,n+j+i,[]⟩)::Z0h n ms vs (j+b.length)
 |_,_,_=>[]
def Z1Q {α:Type}(d:α):Nat->List α->List α
 | 0,_=>[]
 |n+1,[]=>d::Z1Q d n []
 |n+1,a::l=>a::Z1Q d n l
def Z3X (b:Nat)(modes:List Mode)(vals ext:List TVal):State:=
 { slots:=Z1Q .dead b (Z0h b modes vals 0),boxes:=Z1Q none b []++ext.map some }
def Z1W (d:List (TypeId×Ty×List TypeId)):List ResultVar->List Bool->State->List TVal->Option (List TVal×State)
 | [],_,σ,b=>some (b.reverse,σ)
 |.tmp t::rs,ag::ags,σ,b=>
  (match σ.look (.tmp t)with
   |some v=>if v.ag==ag then (match σ.take (.tmp t) v.τ with
    |some (u,σ')=>Z1W d rs ags σ' (u::b)
    |none=>none) else none
   |none=>none)
 |.cell a ty::rs,ag::ags,σ,b=>
  (match tyOf d ty,σ.slot a with
   |some τ,.ptr p=>(match σ.getAt p with
    |some v=>if v.τ=τ/\agOf d ty=ag/\Z08 p.path then (match σ.setAt p v.alias with
      |some σ'=>Z1W d rs ags σ' ({ v with ag:=ag }::b)
      |none=>none) else none
    |none=>none)
   |_,_=>none)
 |_,_,_,_=>none
def ioC (np:Nat):List Mode->Nat->State->Option (List TVal×State)
 | [],_,σ=>some ([],σ)
 |.inout τ ag::ms,i,σ=>
  match σ.take (.tmp i) τ with
  |some (u,σ')=>if decide (i<np)&&u.allO&&u.ag==ag then (ioC np ms (i+1) σ').map λr=>(u::r.1,r.2) else none
  |none=>none
 |_::ms,i,σ=>ioC np ms (i+1) σ
def Z2J:List Mode->List Ty
 |.inout τ _::ms=>τ::Z2J ms
 |_::ms=>Z2J ms
 | []=>[]
def Z2U:List TVal->List TVal->Bool
 | [],[]=>true
 |u::us,v::vs=>decide (u.τ=v.τ)&&Z2U us vs
 |_,_=>false
def Z8j (Γ:Env R)(X:List (Z1c R))(ht:HT)(fz:Bool)(fn:Func)(modes:List Mode)(ags:List Bool)(vals ext:List TVal)
  (k:List TVal->List TVal->List TVal->Option R):Option R:=
 match fn.body with
 |none=>none
 |some c=>Z0R Γ X ht c (Z3X fn.ntmps modes vals ext) λe σ=>
  match e with
  |.exit _=>none
  |_=>match Z1W Γ.tys fn.results.toList ags σ []with
   |some (f,g)=>(match ioC Γ.np modes 0 g with
    |some (d,σ')=>(match σ'.boxesAt ((List.range ext.length).map (fn.ntmps+ ·))with
     |some b=>if decide (σ'.slots.length=fn.ntmps)&&Z2U ext b&&b.all TVal.noN&&((!fz&&f.all TVal.noN)||(d.isEmpty&&b.all λv=>v.tg.all λt=> !t.own)) then k (Z22 fz f) d b else none
     |none=>none)
    |none=>none)
   |none=>none
end
end
end Go.PI
namespace Go.PI
def Z05 (w:World)(b o n:Nat):Option (List Value):=
 match w.heap[b]? with
 |some (.cells c _ _)=>if o+n<=c.size then some ((c.toList.drop o).take n) else none
 |_=>none
def Z3Z (c:Array Value)(fr:Nat×Nat):Prop:=∀j,j<c.size->¬ (fr.1<=j/\j<fr.2)
def Row (w:World)(b n:Nat):Prop:=∃c T fr,w.heap[b]? = some (.cells c T fr)/\n<=c.size/\Z3Z c fr
def Z2B (w:World)(b:Nat):Prop:=∃c T fr,w.heap[b]? = some (.cells c T fr)/\¬ (fr.1<=c.size/\c.size<fr.2)
def Z3h (e:Ty)(w:World)(b n:Nat):Prop:=Row w b n/\(e= .int .u8\/Z2B w b)
def Z5f (St Al:Nat->Prop):Tag->Nat->Prop
 |.S,b=>St b
 |.PS,b=>St b
 |_,b=>Al b
def Rp (w:World)(F:Nat->Nat)(St Al:Nat->Prop):(τ:Ty)->List Tag->List Value->El τ->List Nat->Prop
 |.int k,tg,cs,x,fp=>cs=[.int k x]/\tg=[]/\fp=[]
 |.bool,tg,cs,x,fp=>cs=[.bool x]/\tg=[]/\fp=[]
 |.str,tg,cs,x,fp=>cs=[.string x]/\tg=[]/\fp=[]
 |.unit,tg,cs,_,fp=>cs=[]/\tg=[]/\fp=[]
 |.pair a b,tg,cs,x,fp=>∃l m f g i j,tg=l++m/\cs=f++g/\fp=i++j/\Rp w F St Al a l f x.1 i/\Rp w F St Al b m g x.2 j
 |.slice e,tg,cs,x,fp=>∃t a cap,tg=[t]/\cs=[.slice a (List.length (α:=El e) x) cap]/\List.length (α:=El e) x<=cap /\
   ((t.own=true/\a=none/\x=[]/\cap=0/\fp=[]) \/
    (t.own=true/\∃b o fps,a=some ⟨b,o,none⟩/\Al b/\fp=b::List.flatten fps/\fps.length=List.length (α:=El e) x/\Z3h e w b (o+cap * size e) /\
     F b=o+List.length (α:=El e) x * size e /\
     ∀k (h:k<List.length (α:=El e) x),∃d,Z05 w b (o+k * size e) (size e)=some d/\Rp w F St Al e (List.replicate (Z06 e) t.inner) d (List.get (α:=El e) x ⟨k,h⟩) (fps.getD k [])) \/
    (t.own=false/\fp=[]/\(x=[]\/∃b o,a=some ⟨b,o,none⟩/\Z5f St Al t b/\o+List.length (α:=El e) x * size e<=F b /\
     ∀k (h:k<List.length (α:=El e) x),∃d,Z05 w b (o+k * size e) (size e)=some d/\Rp w F St Al e (List.replicate (Z06 e) t.inner) d (List.get (α:=El e) x ⟨k,h⟩) [])))
theorem Z0W {w:World}{b o n:Nat}{cs:List Value}(h:Z05 w b o n=some cs):b<w.heap.size:=by
 unfold Z05 at h;split at h
 ·rename_i d;exact(QV.1 d).1
 ·cases h
theorem Z1C {w:World}{b o n:Nat}{cs:List Value}(h:Z05 w b o n=some cs):cs.length=n:=by
 unfold Z05 at h;split at h
 ·split at h
  ·cases h;simp;omega
  ·cases h
 ·cases h
theorem Row.lt {w:World}{b n:Nat}(h:Row w b n):b<w.heap.size:=by
 obtain⟨c,T,fr,d,_⟩:=h;exact(QV.1 d).1
theorem Row.cells {w:World}{b n o m:Nat}(h:Row w b n)(e:o+m<=n):∃cs,Z05 w b o m=some cs:=by
 obtain⟨c,T,fr,d,f,_⟩:=h;exact⟨_,by unfold Z05;rw[d];simp only[];rw[QM (by omega)]⟩
theorem Row.mono {w:World}{b n m:Nat}(h:Row w b n)(e:m<=n):Row w b m:=by
 obtain⟨c,T,fr,d,f,ht⟩:=h;exact⟨c,T,fr,d,by omega,ht⟩
theorem Z3h.lt {e:Ty}{w:World}{b n:Nat}(h:Z3h e w b n):b<w.heap.size:=h.1.lt
theorem Z3h.cells {e:Ty}{w:World}{b n o m:Nat}(h:Z3h e w b n)(d:o+m<=n):∃cs,Z05 w b o m=some cs:=h.1.cells d
theorem Z3h.mono {e:Ty}{w:World}{b n m:Nat}(h:Z3h e w b n)(d:m<=n):Z3h e w b m:=⟨h.1.mono d,h.2⟩
section
variable {w:World}{F:Nat->Nat}{St Al:Nat->Prop}
theorem Rp.len:{τ:Ty}->{tg:List Tag}->{cs:List Value}->{x:El τ}->{fp:List Nat}->Rp w F St Al τ tg cs x fp->cs.length=size τ/\tg.length=Z06 τ
 |.int _,_,_,_,_,h=>by obtain⟨rfl,rfl,rfl⟩:=h;exact⟨rfl,rfl⟩
 |.bool,_,_,_,_,h=>by obtain⟨rfl,rfl,rfl⟩:=h;exact⟨rfl,rfl⟩
 |.str,_,_,_,_,h=>by obtain⟨rfl,rfl,rfl⟩:=h;exact⟨rfl,rfl⟩
 |.unit,_,_,_,_,h=>by obtain⟨rfl,rfl,rfl⟩:=h;exact⟨rfl,rfl⟩
 |.slice _,_,_,_,_,h=>by obtain⟨t,a,cap,rfl,rfl,_⟩:=h;exact⟨rfl,rfl⟩
 |.pair a b,_,_,_,_,h=>by
  obtain⟨m,n,i,j,k,l,rfl,rfl,rfl,d,e⟩:=h;have f:=Rp.len d;have g:=Rp.len e;simp[size,Z06,f,g]
theorem Rp.lt:{τ:Ty}->{tg:List Tag}->{cs:List Value}->{x:El τ}->{fp:List Nat}->Rp w F St Al τ tg cs x fp->∀b∈fp,b<w.heap.size
 |.int _,_,_,_,_,h=>by obtain⟨rfl,rfl,rfl⟩:=h;simp
 |.bool,_,_,_,_,h=>by obtain⟨rfl,rfl,rfl⟩:=h;simp
 |.str,_,_,_,_,h=>by obtain⟨rfl,rfl,rfl⟩:=h;simp
 |.unit,_,_,_,_,h=>by obtain⟨rfl,rfl,rfl⟩:=h;simp
 |.slice e,_,_,_,_,h=>by
  obtain⟨t,a,cap,rfl,rfl,_,h⟩:=h;rcases h with⟨_,_,_,_,rfl⟩ | ⟨_,b,o,fps,_,_,rfl,A,r,_,n⟩ | ⟨_,rfl,_⟩
  ·simp
  ·intro c d;rcases Qp.1 d with rfl | d
   ·exact r.lt
   ·obtain⟨f,p,g⟩:=X3.1 d;obtain⟨k,q,rfl⟩:=X2.1 p;obtain⟨j,_,i⟩:=n k (by omega)
    refine Rp.lt i c ?_;rw[Qc,Qn q];exact g
  ·simp
 |.pair a b,_,_,_,_,h=>by
  obtain⟨B,C,u,v,y,z,rfl,rfl,rfl,l,m⟩:=h;intro c d;rcases Qr.1 d with d | d
  ·exact Rp.lt l c d
  ·exact Rp.lt m c d
def Z07 (w:World)(F:Nat->Nat)(w':World)(F':Nat->Nat)(b:Nat):Prop:=
 F b<=F' b/\(∀o n cs,o+n<=F b->Z05 w b o n=some cs->Z05 w' b o n=some cs)/\(∀n,Row w b n->Row w' b n)/\(Z2B w b->Z2B w' b)
theorem Z07.rowE {w:World}{F:Nat->Nat}{w':World}{F':Nat->Nat}{b:Nat}(h:Z07 w F w' F' b){e:Ty}{n:Nat}(d:Z3h e w b n):Z3h e w' b n:=⟨h.2.2.1 n d.1,d.2.imp id h.2.2.2⟩
theorem Z07.refl (w:World)(F:Nat->Nat)(b:Nat):Z07 w F w F b:=⟨Qq _,λ_ _ _ _ h=>h,λ_ h=>h,λh=>h⟩
theorem Z07.trans {i w2 j:World}{d e f:Nat->Nat}{b:Nat}(h:Z07 i d w2 e b)(k:Z07 w2 e j f b):Z07 i d j f b:=
 ⟨Qx h.1 k.1,λo n cs g l=>k.2.1 o n cs (Qx g h.1) (h.2.1 o n cs g l),λn p=>k.2.2.1 n (h.2.2.1 n p),λm=>k.2.2.2 (h.2.2.2 m)⟩
theorem Z07.of_block {w w':World}{F F':Nat->Nat}{b:Nat}(h:w'.heap[b]? = w.heap[b]?)(e:F b<=F' b):Z07 w F w' F' b:=
 ⟨e,λo n cs _ f=>by unfold Z05 at *;rw[h];exact f,λn d=>by unfold Row at *;rw[h];exact d,λd=>by unfold Z2B at *;rw[h];exact d⟩
theorem Tag.inner_own_false {t:Tag}(h:t.own=false):t.inner.own=false:=by cases t<;>simp_all[Tag.own,Tag.inner]
theorem Rp.pres {w':World}{F':Nat->Nat}{St' Al':Nat->Prop}(i:∀b,St b->St' b)(d:∀b,b<w.heap.size->Al b->Al' b)(n:∀b,St b->Z07 w F w' F' b) :
  {τ:Ty}->{tg:List Tag}->{cs:List Value}->{x:El τ}->{fp:List Nat}->Rp w F St Al τ tg cs x fp ->
  (∀b∈fp,Z07 w F w' F' b/\F' b=F b)->((∀t∈tg,t.isN=false)\/∀b,b<w.heap.size->Al b->Z07 w F w' F' b)->Rp w' F' St' Al' τ tg cs x fp
 |.int _,_,_,_,_,h,_,_=>h
 |.bool,_,_,_,_,h,_,_=>h
 |.str,_,_,_,_,h,_,_=>h
 |.unit,_,_,_,_,h,_,_=>h
 |.pair a b,_,_,_,_,h,j,g=>by
  obtain⟨U,V,J,K,L,M,rfl,rfl,rfl,P,Q⟩:=h;refine⟨U,V,J,K,L,M,rfl,rfl,rfl,Rp.pres i d n P (λb C=>j b (Qh _ C)) ?_,Rp.pres i d n Q (λb C=>j b (Qo _ C)) ?_⟩
  ·exact g.imp (λh t ht=>h t (Qh _ ht)) id
  ·exact g.imp (λh t ht=>h t (Qo _ ht)) id
 |.slice e,_,_,x,_,h,j,g=>by
  obtain⟨t,a,cap,rfl,rfl,G,h⟩:=h;have m:((∀t'∈List.replicate (Z06 e) t.inner,t'.isN=false)\/∀b,b<w.heap.size->Al b->Z07 w F w' F' b):=
   g.imp (λh t' H=>by
    obtain⟨_,rfl⟩:=XC.1 H;have:=h t (by simp)
    cases t<;>simp_all[Tag.isN,Tag.inner]) id
  refine⟨t,a,cap,rfl,rfl,G,?_⟩;rcases h with h | ⟨z,b,o,fps,A,B,rfl,R,I,v,y⟩ | ⟨z,rfl,h⟩
  ·exact .inl h
  ·refine .inr (.inl ⟨z,b,o,fps,A,d b I.lt B,rfl,R,?_,?_,λk q=> ?_⟩)
   ·exact((j b (by simp)).1).rowE I
   ·rw[(j b (by simp)).2];exact v
   ·obtain⟨f,p,l⟩:=y k q;refine⟨f,((j b (by simp)).1).2.1 _ _ _ ?_ p,Rp.pres i d n l (λc E=>j c ?_) m⟩
    ·rw[v];have:(k+1) * size e<=List.length (α:=El e) x * size e:=Qt _ q;rw[QC,Xg]at this;omega
    ·refine Qa _ (X3.2 ⟨_,?_,E⟩);rw[Qc,Qn (by omega)]
     exact Q7 _
  ·refine .inr (.inr ⟨z,rfl,?_⟩);rcases h with h | ⟨b,o,A,u,v,y⟩
   ·exact .inl h
   ·by_cases T:(List.length (α:=El e) x)=0
    ·exact .inl (Qv.1 T)
    have D:b<w.heap.size:=by
     obtain⟨f,p,_⟩:=y 0 (by omega)
     exact Z0W p
    have r:Z07 w F w' F' b:=by
     rcases g with g | g
     ·have:=g t (by simp)
      cases t<;>simp_all[Tag.isN,Tag.own,Z5f]
     ·cases t with
      |S=>exact n b u
      |N=>exact g b D u
      |_=>cases z
    refine .inr ⟨b,o,A,?_,Qx v r.1,λk q=> ?_⟩
    ·cases t<;>simp_all[Z5f]
    ·obtain⟨f,p,l⟩:=y k q;refine⟨f,r.2.1 _ _ _ ?_ p,Rp.pres i d n l (by simp) m⟩
     have:(k+1) * size e<=List.length (α:=El e) x * size e:=Qt _ q;rw[QC,Xg]at this;omega
def Tag.weak (St':Nat->Prop)(fp:List Nat)(t t':Tag):Prop:=t'= .N\/(t'= .S/\(t= .S\/((t= .O\/t= .PS)/\∀b∈fp,St' b)))
theorem Rp.weaken {St':Nat->Prop}(j:∀b,St b->St' b)(n:∀b,St b->Al b) :
  {τ:Ty}->{tg d:List Tag}->{cs:List Value}->{x:El τ}->{fp:List Nat}->Rp w F St Al τ tg cs x fp ->
  d.length=tg.length->(∀i (h:i<tg.length) (r:i<d.length),Tag.weak St' fp tg[i] d[i])->Rp w F St' Al τ d cs x []
 |.int _,_,_,_,_,_,h,l,_=>by obtain⟨rfl,rfl,rfl⟩:=h;exact⟨rfl,by simpa using l,rfl⟩
 |.bool,_,_,_,_,_,h,l,_=>by obtain⟨rfl,rfl,rfl⟩:=h;exact⟨rfl,by simpa using l,rfl⟩
 |.str,_,_,_,_,_,h,l,_=>by obtain⟨rfl,rfl,rfl⟩:=h;exact⟨rfl,by simpa using l,rfl⟩
 |.unit,_,_,_,_,_,h,l,_=>by obtain⟨rfl,rfl,rfl⟩:=h;exact⟨rfl,by simpa using l,rfl⟩
 |.pair a b,_,d,_,_,_,h,l,A=>by
  obtain⟨B,Y,Q,R,Z,f2,rfl,rfl,rfl,u,v⟩:=h;have V:d.length=B.length+Y.length:=by simpa using l
  refine⟨d.take B.length,d.drop B.length,Q,R,[],[],(XB _ _).symm,rfl,rfl,Rp.weaken j n u (by simp;omega) ?_,Rp.weaken j n v (by simp;omega) ?_⟩
  ·intro i h r;have:=A i (by simp;omega) (by simp at r;omega)
   rw[Xw h]at this;simp only[Y7];exact this.imp id (λ⟨u,v⟩=>⟨u,v.imp id (λ⟨C,D⟩=>⟨C,λb y=>D b (Qh _ y)⟩)⟩)
  ·intro i h r;have:=A (B.length+i) (by simp;omega) (by simp at r;omega)
   rw[Xh (by omega)]at this
   simp only[Nat.add_sub_cancel_left]at this;simp only[YH];exact this.imp id (λ⟨u,v⟩=>⟨u,v.imp id (λ⟨C,D⟩=>⟨C,λb y=>D b (Qo _ y)⟩)⟩)
 |.slice e,_,d,_,_,_,h,l,A=>by
  obtain⟨t,a,cap,rfl,rfl,K,h⟩:=h;obtain⟨t',rfl⟩:∃t',d=[t']:=by
   match d,l with
   | [t'],_=>exact⟨t',rfl⟩
  have g:=A 0 (by simp) (by simp)
  simp only[Yp]at g;have L:t'.own=false:=by rcases g with rfl | ⟨rfl,_⟩<;>rfl
  refine⟨t',a,cap,rfl,rfl,K,.inr (.inr ⟨L,rfl,?_⟩)⟩;have m:∀(f:List Nat),(∀b∈f,∀_:t'= .S,t.inner.own=true->St' b)->∀i (h:i<(List.replicate (Z06 e) t.inner).length) (r:i<(List.replicate (Z06 e) t'.inner).length),
    Tag.weak St' f (List.replicate (Z06 e) t.inner)[i] (List.replicate (Z06 e) t'.inner)[i]:=by
   intro f U i h r;simp only[List.getElem_replicate];rcases g with rfl | ⟨rfl,h⟩
   ·exact .inl rfl
   ·refine .inr ⟨rfl,?_⟩;rcases h with rfl | ⟨rfl | rfl,h⟩
    ·exact .inl rfl
    ·exact .inr ⟨.inl rfl,λb y=>U b y rfl rfl⟩
    ·exact .inl rfl
  rcases h with⟨_,rfl,rfl,rfl,rfl⟩ | ⟨z,b,o,fps,rfl,E,rfl,W,hr,P,I⟩ | ⟨z,rfl,h⟩
  ·exact .inl rfl
  ·refine .inr ⟨b,o,rfl,?_,by omega,λk J=> ?_⟩
   ·rcases g with rfl | ⟨rfl,h⟩
    ·exact E
    ·rcases h with rfl | ⟨_,h⟩
     ·cases z
     ·exact h b (by simp)
   ·obtain⟨p,G,q⟩:=I k J;refine⟨p,G,Rp.weaken j n q (by simp) (m _ λc H X _=> ?_)⟩
    rcases g with rfl | ⟨rfl,h⟩
    ·cases X
    ·rcases h with rfl | ⟨_,h⟩
     ·cases z
     ·refine h c (Qa _ (X3.2 ⟨_,?_,H⟩));rw[Qc,Qn (by omega)]
      exact Q7 _
  ·rcases h with h | ⟨b,o,T,M,P,I⟩
   ·exact .inl h
   ·refine .inr ⟨b,o,T,?_,P,λk J=> ?_⟩
    ·rcases g with rfl | ⟨rfl,h⟩
     ·cases t<;>simp_all[Z5f,Tag.own]
     ·rcases h with rfl | ⟨rfl | rfl,h⟩
      ·exact j b M
      ·cases z
      ·cases z
    ·obtain⟨p,G,q⟩:=I k J;exact⟨p,G,Rp.weaken j n q (by simp) (m _ (by simp))⟩
theorem Rp.alias (d:∀b,St b->Al b){τ:Ty}{tg:List Tag}{cs:List Value}{x:El τ}{fp:List Nat}(h:Rp w F St Al τ tg cs x fp):Rp w F St Al τ (tg.map Tag.alias) cs x []:=
 h.weaken (λ_ h=>h) d (by simp) λi h e=>by
  simp only[Xn];cases tg[i]<;>simp[Tag.weak,Tag.alias]
theorem Rp.freeze {St':Nat->Prop}(f:∀b,St b->St' b)(e:∀b,St b->Al b){τ:Ty}{tg:List Tag}{cs:List Value}{x:El τ}{fp:List Nat}(h:Rp w F St Al τ tg cs x fp)(d:∀b∈fp,St' b) :
  Rp w F St' Al τ (tg.map Tag.freeze) cs x []:=
 h.weaken f e (by simp) λi h g=>by
  simp only[Xn];generalize tg[i]=t;cases t<;>simp[Tag.weak,Tag.freeze]
  ·exact d
  ·exact d
theorem Rp.fp_nil:{τ:Ty}->{tg:List Tag}->{cs:List Value}->{x:El τ}->{fp:List Nat}->Rp w F St Al τ tg cs x fp->(∀t∈tg,t.own=false)->fp=[]
 |.int _,_,_,_,_,h,_=>by obtain⟨rfl,rfl,rfl⟩:=h;rfl
 |.bool,_,_,_,_,h,_=>by obtain⟨rfl,rfl,rfl⟩:=h;rfl
 |.str,_,_,_,_,h,_=>by obtain⟨rfl,rfl,rfl⟩:=h;rfl
 |.unit,_,_,_,_,h,_=>by obtain⟨rfl,rfl,rfl⟩:=h;rfl
 |.slice e,_,_,_,_,h,d=>by
  obtain⟨t,a,cap,rfl,rfl,_,h⟩:=h;have:=d t (by simp)
  rcases h with⟨f,_⟩ | ⟨f,_⟩ | ⟨_,rfl,_⟩
  ·simp_all
  ·simp_all
  ·rfl
 |.pair a b,_,_,_,_,h,d=>by
  obtain⟨m,n,i,j,k,l,rfl,rfl,rfl,f,g⟩:=h;rw[Rp.fp_nil f λt ht=>d t (Qh _ ht),Rp.fp_nil g λt ht=>d t (Qo _ ht)];rfl
end
end Go.PI
namespace Go.PI
def Z00 (w:World):(τ:Ty)->List Value->Option (Nat×Nat)->List Step->Option (List Value×Option (Nat×Nat))
 |_,cs,base,[]=>some (cs,base)
 |.pair a b,cs,base,.fst::p=>Z00 w a (cs.take (size a)) base p
 |.pair a b,cs,base,.snd::p=>Z00 w b (cs.drop (size a)) (base.map λx=>(x.1,x.2+size a)) p
 |.slice e,cs,_,.idx i::p=>
  match cs with
  | [.slice (some ⟨b,o,none⟩) len _]=>
   if i<len then
    match Z05 w b (o+i * size e) (size e)with
    |some d=>Z00 w e d (some (b,o+i * size e)) p
    |none=>none
   else none
  |_=>none
 |_,_,_,_=>none
section
variable {w:World}{F:Nat->Nat}{St Al:Nat->Prop}
theorem Z4e {α:Type}(l:List α)(i:Nat)(d:α)(h:i<l.length):l.getD i d=l.get ⟨i,h⟩:=by
 rw[Qc,Qn h];rfl
theorem Rp.pair_parts {a b:Ty}{tg:List Tag}{cs:List Value}{x:El (.pair a b)}{fp:List Nat}(h:Rp w F St Al (.pair a b) tg cs x fp) :
  ∃d e,fp=d++e/\Rp w F St Al a (tg.take (Z06 a)) (cs.take (size a)) x.1 d/\Rp w F St Al b (tg.drop (Z06 a)) (cs.drop (size a)) x.2 e:=by
 obtain⟨l,m,j,k,d,e,rfl,rfl,rfl,g,i⟩:=h;have f:=g.len;refine⟨d,e,rfl,?_,?_⟩
 ·rw[<-f.1,<-f.2];simpa using g
 ·rw[<-f.1,<-f.2];simpa using i
theorem Rp.pair_mk {a b:Ty}{h i:List Tag}{d e:List Value}{x:El a}{y:El b}{f g:List Nat}(j:Rp w F St Al a h d x f)(k:Rp w F St Al b i e y g) :
  Rp w F St Al (.pair a b) (h++i) (d++e) (x,y) (f++g):=⟨h,i,d,e,f,g,rfl,rfl,rfl,j,k⟩
theorem Rp.get:{path:List Step}->{τ:Ty}->{tg:List Tag}->{cs j:List Value}->{x:El τ}->{fp:List Nat}->{base f:Option (Nat×Nat)}->{u:TVal} ->
  Rp w F St Al τ tg cs x fp->Z00 w τ cs base path=some (j,f)->Z04 τ x tg path=some u ->
  ∃g,Rp w F St Al u.τ u.tg j u.x g/\∀b∈g,b∈fp
 | [],τ,tg,cs,j,x,fp,base,f,u,h,d,m=>by
  simp only[Z00,Q9,Qs]at d;obtain⟨rfl,rfl⟩:=d;cases τ<;>(simp only[Z04,Q9]at m;subst m;exact⟨fp,h,λ_ h=>h⟩)
 |.fst::p,.pair a b,tg,cs,j,x,fp,base,f,u,h,d,m=>by
  obtain⟨K,L,rfl,E,G⟩:=h.pair_parts;obtain⟨g,n,q⟩:=Rp.get (path:=p) E d m;exact⟨g,n,λb z=>Qh _ (q b z)⟩
 |.snd::p,.pair a b,tg,cs,j,x,fp,base,f,u,h,d,m=>by
  obtain⟨K,L,rfl,E,G⟩:=h.pair_parts;obtain⟨g,n,q⟩:=Rp.get (path:=p) G d m;exact⟨g,n,λb z=>Qo _ (q b z)⟩
 |.idx i::p,.slice e,tg,cs,j,x,fp,base,f,u,h,d,m=>by
  obtain⟨t,a,cap,rfl,rfl,Q,h⟩:=h;simp only[Z00]at d;split at d
  ·rename_i b o len D v;simp only[X4,Value.slice.injEq,and_true]at v;obtain⟨rfl,rfl,rfl⟩:=v;split at d
   ·rename_i y;split at d
    ·rename_i J r;simp only[Z04,List.headD_cons]at m;rw[Z4e _ _ _ y]at m;rcases h with⟨_,T,_⟩ | ⟨U,H,o',fps,k,P,rfl,R,W,M,B⟩ | ⟨U,rfl,h⟩
     ·cases T
     ·simp only[Q9,Addr.mk.injEq,and_true]at k;obtain⟨rfl,rfl⟩:=k;obtain⟨I,l,C⟩:=B i y;rw[r]at l;cases l;obtain⟨g,n,q⟩:=Rp.get (path:=p) C d m;refine⟨g,n,λc A=>Qa _ (X3.2 ⟨_,?_,q c A⟩)⟩
      rw[Qc,Qn (by omega)]
      exact Q7 _
     ·rcases h with h | ⟨H,o',k,V,M,B⟩
      ·subst h;simp at y
      ·simp only[Q9,Addr.mk.injEq,and_true]at k;obtain⟨rfl,rfl⟩:=k;obtain⟨I,l,C⟩:=B i y;rw[r]at l;cases l;obtain⟨g,n,q⟩:=Rp.get (path:=p) C d m;exact⟨g,n,λc A=>by simpa using q c A⟩
    ·cases d
   ·cases d
  ·cases d
 |.fst::_,.int _,_,_,_,_,_,_,_,_,_,d,_=>by simp[Z00]at d
 |.fst::_,.bool,_,_,_,_,_,_,_,_,_,d,_=>by simp[Z00]at d
 |.fst::_,.str,_,_,_,_,_,_,_,_,_,d,_=>by simp[Z00]at d
 |.fst::_,.unit,_,_,_,_,_,_,_,_,_,d,_=>by simp[Z00]at d
 |.fst::_,.slice _,_,_,_,_,_,_,_,_,_,d,_=>by simp[Z00]at d
 |.snd::_,.int _,_,_,_,_,_,_,_,_,_,d,_=>by simp[Z00]at d
 |.snd::_,.bool,_,_,_,_,_,_,_,_,_,d,_=>by simp[Z00]at d
 |.snd::_,.str,_,_,_,_,_,_,_,_,_,d,_=>by simp[Z00]at d
 |.snd::_,.unit,_,_,_,_,_,_,_,_,_,d,_=>by simp[Z00]at d
 |.snd::_,.slice _,_,_,_,_,_,_,_,_,_,d,_=>by simp[Z00]at d
 |.idx _::_,.int _,_,_,_,_,_,_,_,_,_,d,_=>by simp[Z00]at d
 |.idx _::_,.bool,_,_,_,_,_,_,_,_,_,d,_=>by simp[Z00]at d
 |.idx _::_,.str,_,_,_,_,_,_,_,_,_,d,_=>by simp[Z00]at d
 |.idx _::_,.unit,_,_,_,_,_,_,_,_,_,d,_=>by simp[Z00]at d
 |.idx _::_,.pair _ _,_,_,_,_,_,_,_,_,_,d,_=>by simp[Z00]at d
def Z0g:Ty->List Step->Nat
 |.pair a b,.fst::p=>Z0g a p
 |.pair a b,.snd::p=>size a+Z0g b p
 |_,_=>0
def Z0c (cs:List Value)(o:Nat)(l:List Value):List Value:=cs.take o++l++cs.drop (o+l.length)
def Z0m (w:World)(b o:Nat)(l:List Value):World:=
 { w with heap:=w.heap.modify b λd=>match d with | .cells c T fr=> .cells (Z0c c.toList o l).toArray T fr | x=>x }
theorem Z1T {cs l:List Value}{o:Nat}(h:o+l.length<=cs.length):(Z0c cs o l).length=cs.length:=by
 unfold Z0c;simp;omega
theorem Z2X {cs l:List Value}(h:l.length=cs.length):Z0c cs 0 l=l:=by
 unfold Z0c;simp[h]
theorem Z4v {cs l:List Value}{o o' n:Nat}(h:o+n<=o'\/o'+l.length<=o)(d:o'+l.length<=cs.length) :
  ((Z0c cs o' l).drop o).take n=(cs.drop o).take n:=by
 apply List.ext_getElem?;intro i;unfold Z0c;simp only[Ya,XV];by_cases b:i<n
 ·simp only[b,XH];rcases h with h | h
  ·rw[Qb,Yt (by simp;omega),YA (by omega)]
  ·rw[YG (by simp;omega)]
   simp only[Q5,Qf,XV];congr 1;omega
 ·simp[b]
theorem Z4M {cs l:List Value}{o o' n:Nat}(h:o<=o')(d:o'+l.length<=o+n)(g:o+n<=cs.length) :
  ((Z0c cs o' l).drop o).take n=Z0c ((cs.drop o).take n) (o'-o) l:=by
 apply List.ext_getElem?;intro i;unfold Z0c;simp only[Ya,XV];by_cases b:i<n
 ·simp only[b,XH];by_cases e:o+i<o'
  ·rw[Qb,Yt (by simp;omega),YA (by omega)]
   rw[Qb,Yt (by simp;omega),YA (by omega),YA (by omega),XV]
  ·by_cases f:o+i<o'+l.length
   ·rw[Qb,YG (by simp;omega),Yt (by simp;omega)]
    rw[Qb,YG (by simp;omega),Yt (by simp;omega)]
    congr 1;simp;omega
   ·rw[YG (by simp;omega),YG (by simp;omega)]
    simp only[Q5,Qf,XV,Qu,Ya];rw[QM (by omega)]
    congr 1;omega
 ·simp only[b,XI];rw[Yf];simp;omega
theorem Z14 {w:World}{b o:Nat}{l:List Value}{c:Nat}(h:c≠b):(Z0m w b o l).heap[c]? = w.heap[c]? := by
 simp only[Z0m,XG];rw[QN (by omega)]
theorem Z0Z {w w':World}{b:Nat}(h:w'.heap[b]? = w.heap[b]?)(o n:Nat):Z05 w' b o n=Z05 w b o n:=by
 unfold Z05;rw[h]
theorem Z3M {w w':World}{b n:Nat}(h:w'.heap[b]? = w.heap[b]?):Row w' b n↔Row w b n:=by
 unfold Row;rw[h]
theorem Z2j {w:World}{b o' o n:Nat}{l cs:List Value}(j:∃m,o'+l.length<=m/\Row w b m)(h:o+n<=o'\/o'+l.length<=o)(d:Z05 w b o n=some cs) :
  Z05 (Z0m w b o' l) b o n=some cs:=by
 obtain⟨m,p,c,T,fr,i,q,_⟩:=j;have e:o'+l.length<=c.toList.length:=by have:c.toList.length=c.size:=X8;omega
 have g:(Z0c c.toList o' l).toArray.size=c.size:=by rw[QI,Z1T e,X8]
 have k:(Z0m w b o' l).heap[b]? = some (.cells (Z0c c.toList o' l).toArray T fr):=by
  simp only[Z0m,XG,i,XH,XU]
 unfold Z05 at *;rw[i]at d;rw[k];simp only[]at d ⊢;by_cases f:o+n<=c.size
 ·rw[QM f]at d;rw[QM (by rw[g];exact f),List.toList_toArray,Z4v h e]
  exact d
 ·rw[QN f]at d;cases d
theorem Z3G {w:World}{b o' o n:Nat}{l cs:List Value}(h:o<=o')(i:o'+l.length<=o+n)(d:Z05 w b o n=some cs) :
  Z05 (Z0m w b o' l) b o n=some (Z0c cs (o'-o) l):=by
 unfold Z05 at d;split at d
 ·rename_i c T fr j;split at d
  ·rename_i g;cases d;have e:o'+l.length<=c.toList.length:=by have:c.toList.length=c.size:=X8;omega
   have f:(Z0c c.toList o' l).toArray.size=c.size:=by rw[QI,Z1T e,X8]
   have k:(Z0m w b o' l).heap[b]? = some (.cells (Z0c c.toList o' l).toArray T fr):=by
    simp only[Z0m,XG,j,XH,XU]
   unfold Z05;rw[k];simp only[];rw[QM (by rw[f];exact g),List.toList_toArray,Z4M h i (by have:c.toList.length=c.size:=X8;omega)]
  ·cases d
 ·cases d
theorem Z4O {w:World}{b o' n m:Nat}{l:List Value}(u:o'+l.length<=m)(g:Row w b m)(h:Row w b n):Row (Z0m w b o' l) b n:=by
 obtain⟨c,T,fr,e,v,ht⟩:=h;obtain⟨q,p,f,d,i,_⟩:=g;rw[e]at d;cases d;have k:(Z0c c.toList o' l).toArray.size=c.size:=by
  rw[QI,Z1T (by have:c.toList.length=c.size:=X8;omega),X8]
 refine⟨(Z0c c.toList o' l).toArray,T,fr,?_,by omega,λj r=>ht j (by omega)⟩
 simp only[Z0m,XG,e,XH,XU]
theorem Z2C {w w':World}{b:Nat}(h:w'.heap[b]? = w.heap[b]?):Z2B w' b↔Z2B w b:=by
 unfold Z2B;rw[h]
theorem Z3C {w:World}{b o' m:Nat}{l:List Value}(q:o'+l.length<=m)(i:Row w b m)(h:Z2B w b):Z2B (Z0m w b o' l) b:=by
 obtain⟨c,T,fr,f,j⟩:=h;obtain⟨p,n,g,d,k,_⟩:=i;rw[f]at d;cases d;have e:(Z0c c.toList o' l).toArray.size=c.size:=by
  rw[QI,Z1T (by have:c.toList.length=c.size:=X8;omega),X8]
 refine⟨(Z0c c.toList o' l).toArray,T,fr,?_,by rw[e];exact j⟩
 simp only[Z0m,XG,f,XH,XU]
def Z7n (w:World)(base:Option (Nat×Nat))(l:List Value):World:=match base with | some (b,o)=>Z0m w b o l | none=>w
theorem Z3K (l:List (List Nat))(i:Nat)(h:i<l.length):(l.flatten).Perm ((l.set i []).flatten++l[i]):=by
 induction l generalizing i with
 |nil=>simp at h
 |cons a l b=>
  cases i with
  |zero=>simp only[List.set_cons_zero,QO,Yp,Qk];exact XQ
  |succ i=>
   simp only[List.set_cons_succ,QO,Yo,Qb];exact XP _ (b i (by simpa using h))
theorem Z5v (l:List (List Nat))(i:Nat)(m:List Nat)(h:i<l.length):((l.set i m).flatten).Perm ((l.set i []).flatten++m):=by
 have:=Z3K (l.set i m) i (by simpa using h)
 simpa using this
end
end Go.PI
namespace Go.PI
section
variable {w:World}{F:Nat->Nat}{St Al:Nat->Prop}
theorem Rp.presO {w':World}{F':Nat->Nat}{St' Al':Nat->Prop} :
  {τ:Ty}->{tg:List Tag}->{cs:List Value}->{x:El τ}->{fp:List Nat}->Rp w F St Al τ tg cs x fp->(∀t∈tg,t= .O) ->
  (∀b∈fp,Z07 w F w' F' b/\F' b=F b/\(Al b->Al' b))->Rp w' F' St' Al' τ tg cs x fp
 |.int _,_,_,_,_,h,_,_=>h
 |.bool,_,_,_,_,h,_,_=>h
 |.str,_,_,_,_,h,_,_=>h
 |.unit,_,_,_,_,h,_,_=>h
 |.pair a b,_,_,_,_,h,g,f=>by
  obtain⟨I,J,u,v,y,z,rfl,rfl,rfl,A,B⟩:=h;exact⟨I,J,u,v,y,z,rfl,rfl,rfl,Rp.presO A (λt ht=>g t (Qh _ ht)) (λb d=>f b (Qh _ d)),
   Rp.presO B (λt ht=>g t (Qo _ ht)) (λb d=>f b (Qo _ d))⟩
 |.slice e,_,_,x,_,h,g,f=>by
  obtain⟨t,a,cap,rfl,rfl,n,h⟩:=h;obtain rfl:=g t (by simp)
  refine⟨.O,a,cap,rfl,rfl,n,?_⟩;rcases h with h | ⟨p,b,o,fps,C,j,rfl,G,H,q,E⟩ | ⟨p,_⟩
  ·exact .inl h
  ·have d:=f b (by simp)
   refine .inr (.inl ⟨p,b,o,fps,C,d.2.2 j,rfl,G,d.1.rowE H,by rw[d.2.1];exact q,λk r=> ?_⟩)
   obtain⟨i,D,m⟩:=E k r;refine⟨i,d.1.2.1 _ _ _ ?_ D,Rp.presO m (by simp[Tag.inner]) (λc l=>f c ?_)⟩
   ·rw[q];have:(k+1) * size e<=List.length (α:=El e) x * size e:=Qt _ r;rw[QC,Xg]at this;omega
   ·refine Qa _ (X3.2 ⟨_,?_,l⟩);rw[Qc,Qn (by omega)]
    exact Q7 _
  ·cases p
theorem Z1u:{path:List Step}->{τ:Ty}->{x:El τ}->{tg:List Tag}->{u:TVal}->Z08 path=true->Z04 τ x tg path=some u->Z0g τ path+size u.τ<=size τ
 | [],τ,x,tg,u,_,h=>by cases τ<;>(simp only[Z04,Q9]at h;subst h;simp[Z0g])
 |.fst::p,.pair a b,x,tg,u,d,h=>by
  have:=Z1u (path:=p) d h;simp only[Z0g,size];omega
 |.snd::p,.pair a b,x,tg,u,d,h=>by
  have:=Z1u (path:=p) d h;simp only[Z0g,size];omega
 |.idx _::_,_,_,_,_,d,_=>by simp[Z08]at d
 |.fst::_,.int _,_,_,_,_,h=>by simp[Z04]at h
 |.fst::_,.bool,_,_,_,_,h=>by simp[Z04]at h
 |.fst::_,.str,_,_,_,_,h=>by simp[Z04]at h
 |.fst::_,.unit,_,_,_,_,h=>by simp[Z04]at h
 |.fst::_,.slice _,_,_,_,_,h=>by simp[Z04]at h
 |.snd::_,.int _,_,_,_,_,h=>by simp[Z04]at h
 |.snd::_,.bool,_,_,_,_,h=>by simp[Z04]at h
 |.snd::_,.str,_,_,_,_,h=>by simp[Z04]at h
 |.snd::_,.unit,_,_,_,_,h=>by simp[Z04]at h
 |.snd::_,.slice _,_,_,_,_,h=>by simp[Z04]at h
theorem Z3g {a b l:List Value}{o:Nat}(h:o+l.length<=a.length):Z0c (a++b) o l=Z0c a o l++b:=by
 unfold Z0c;rw[XN (by omega),YX (by omega)]
 simp
theorem Z2M {a b l:List Value}{o:Nat}:Z0c (a++b) (a.length+o) l=a++Z0c b o l:=by
 unfold Z0c;rw[List.take_length_add_append,show a.length+o+l.length=a.length+(o+l.length) by omega,List.drop_length_add_append]
 simp
def Put (w:World)(F:Nat->Nat)(Al:Nat->Prop)(w':World)(F':Nat->Nat)(Al':Nat->Prop)(base:Option (Nat×Nat))(l:List Value)(b:Nat):Prop:=
 F' b=F b/\(Al b->Al' b)/\w'.heap[b]? = (Z7n w base l).heap[b]?
theorem Put.keep {w':World}{F':Nat->Nat}{Al':Nat->Prop}{base:Option (Nat×Nat)}{l:List Value}{b:Nat}(h:Put w F Al w' F' Al' base l b)(d:∀y,base=some y->y.1≠b) :
  Z07 w F w' F' b/\F' b=F b/\(Al b->Al' b):=by
 refine⟨Z07.of_block ?_ (by rw[h.1];exact Qq _),h.1,h.2.1⟩
 rw[h.2.2];cases base with
 |none=>rfl
 |some y=>exact Z14 (by have:=d y rfl;omega)
structure Lens (w:World)(F:Nat->Nat)(St Al:Nat->Prop)(τ:Ty)(tg:List Tag)(cs:List Value)(x:El τ)(fp:List Nat)(base:Option (Nat×Nat))(path:List Step)
  (cs':List Value) (base':Option (Nat×Nat)) (u:TVal) (fpo fpi:List Nat):Prop where
 perm:fp.Perm (fpo++fpi)
 part:Rp w F St Al u.τ u.tg cs' u.x fpi
 tags:∀t∈u.tg,t= .O
 deep:Z08 path=false->∃b' o' m,base'=some (b',o')/\b'∈fpo/\o'+size u.τ<=m/\Row w b' m
 flat:Z08 path=true->base'=base.map λy=>(y.1,y.2+Z0g τ path)
 put:∀(w':World) (F':Nat->Nat) (St' Al':Nat->Prop) (v:TVal) (csv:List Value) (fpv:List Nat) (x':El τ) (tg':List Tag),
  Z0I τ x tg path v=some (x',tg')->v.τ=u.τ->(∀t∈v.tg,t= .O)->Rp w' F' St' Al' v.τ v.tg csv v.x fpv ->
  (∀b∈fpo,Put w F Al w' F' Al' base' csv b) ->
  ∃fpn,fpn.Perm (fpo++fpv)/\(∀t∈tg',t= .O)/\Rp w' F' St' Al' τ tg' (if Z08 path then Z0c cs (Z0g τ path) csv else cs) x' fpn
theorem Rp.lens:{path:List Step}->{τ:Ty}->{tg:List Tag}->{cs I:List Value}->{x:El τ}->{fp:List Nat}->{base f:Option (Nat×Nat)}->{u:TVal} ->
  Rp w F St Al τ tg cs x fp->(∀t∈tg,t= .O)->fp.Nodup->(∀y,base=some y->y.1 ∉ fp)->Z00 w τ cs base path=some (I,f)->Z04 τ x tg path=some u ->
  ∃E R,Lens w F St Al τ tg cs x fp base path I f u E R
 | [],τ,tg,cs,I,x,fp,base,f,u,h,V,hn,hb,d,U=>by
  simp only[Z00,Q9,Qs]at d;obtain⟨rfl,rfl⟩:=d;have hu:u=⟨τ,false,x,tg⟩:=by cases τ<;>(simp only[Z04,Q9]at U;exact U.symm)
  subst hu;refine⟨[],fp,⟨by simp,h,V,by simp[Z08],λ_=> ?_,?_⟩⟩
  ·cases base<;>cases τ<;>simp[Z0g]
  ·intro w' F' St' Al' v C T x' tg' K hv Q B _;obtain⟨vτ,vag,vx,vtg⟩:=v;simp only at hv Q B;subst hv;have hs':vx=x'/\vtg=tg':=by
    cases vτ<;>(simp only[Z0I,Yr,Q9,Qs]at K;first | exact K | exact⟨rfl,K.2⟩)
   obtain⟨rfl,rfl⟩:=hs';refine⟨T,by simp,Q,?_⟩
   have h0:Z0g vτ []=0:=by cases vτ<;>rfl
   simp only[Z08,XH,h0];rw[Z2X (by rw[B.len.1,h.len.1])]
   exact B
 |.fst::p,.pair a b,tg,cs,I,x,fp,base,f,u,h,V,hn,hb,d,U=>by
  obtain⟨t1,t2,c1,c2,f1,f2,rfl,rfl,rfl,h1,h2⟩:=h;have i1:=h1.len;have hl':Z00 w a c1 base p=some (I,f):=by
   simp only[Z00]at d;rw[<-i1.1]at d;simpa using d
  have J:Z04 a x.1 t1 p=some u:=by
   simp only[Z04]at U;rw[<-i1.2]at U;simpa using U
  have hn1:f1.Nodup:=(Qj.1 hn).1;obtain⟨E,R,L⟩:=Rp.lens (path:=p) h1 (λt ht=>V t (Qh _ ht)) hn1 (λy j=>λX=>hb y j (Qh _ X)) hl' J
  have P:∀c∈E,c∈f1:=λc n=>L.perm.symm.subset (Qh _ n)
  refine⟨E++f2,R,⟨?_,L.part,L.tags,?_,?_,?_⟩⟩
  ·refine(List.Perm.append_right f2 L.perm).trans ?_;rw[Qb,Qb];exact XP _ XQ
  ·intro hf;obtain⟨b',o',m,H,G,h5⟩:=L.deep hf;exact⟨b',o',m,H,Qh _ G,h5⟩
  ·intro hf;exact L.flat hf
  ·intro w' F' St' Al' v C T x' tg' K hv Q B hp;simp only[Z0I]at K;rw[<-i1.2]at K;simp only[YD,YM,Qm]at K;obtain⟨⟨xa,ta⟩,Z,M⟩:=K;simp only[Qs]at M;obtain⟨rfl,rfl⟩:=M;obtain⟨D,Y,ab,r⟩:=L.put w' F' St' Al' v C T xa ta Z hv Q B (λc n=>hp c (Qh _ n))
   have h2':Rp w' F' St' Al' b t2 c2 x.2 f2:=h2.presO (λt ht=>V t (Qo _ ht)) λc n=>by
    refine(hp c (Qo _ n)).keep ?_;intro y j he;cases g:Z08 p with
    |true=>
     have:=L.flat g;rw[this]at j;cases q:base with
     |none=>rw[q]at j;cases j
     |some z=>rw[q]at j;cases j;have he':z.1=c:=he;exact hb z q (by rw[he'];exact Qo _ n)
    |false=>
     obtain⟨b',o',m,H,G,h5⟩:=L.deep g;rw[H]at j;cases j;exact(Qj.1 hn).2.2 _ (P _ G) _ n he
   refine⟨D++f2,?_,?_,?_⟩
   ·refine(List.Perm.append_right f2 Y).trans ?_;rw[Qb,Qb];exact XP _ XQ
   ·intro t ht;rcases Qr.1 ht with ht | ht
    ·exact ab t ht
    ·exact V t (Qo _ ht)
   ·have hfe:Z08 (.fst::p)=Z08 p:=rfl;rw[hfe];cases g:Z08 p with
    |true=>
     simp only[g,XH]at r ⊢;have hsz:=Z1u g J;rw[show Z0g (a.pair b) (.fst::p)=Z0g a p from rfl,Z3g (by rw[B.len.1,hv,i1.1];omega)]
     exact Rp.pair_mk r h2'
    |false=>
     simp only[g,Xj,XI]at r ⊢;exact Rp.pair_mk r h2'
 |.snd::p,.pair a b,tg,cs,I,x,fp,base,f,u,h,V,hn,hb,d,U=>by
  obtain⟨t1,t2,c1,c2,f1,f2,rfl,rfl,rfl,h1,h2⟩:=h;have i1:=h1.len;have hl':Z00 w b c2 (base.map λx=>(x.1,x.2+size a)) p=some (I,f):=by
   simp only[Z00]at d;rw[<-i1.1]at d ⊢;simpa using d
  have J:Z04 b x.2 t2 p=some u:=by
   simp only[Z04]at U;rw[<-i1.2]at U;simpa using U
  have hn1:f2.Nodup:=(Qj.1 hn).2.1;obtain⟨E,R,L⟩:=Rp.lens (path:=p) h2 (λt ht=>V t (Qo _ ht)) hn1 (λy j=>λX=>by
   cases q:base with
   |none=>rw[q]at j;cases j
   |some z=>rw[q]at j;cases j;exact hb z q (Qo _ X)) hl' J
  have P:∀c∈E,c∈f2:=λc n=>L.perm.symm.subset (Qh _ n)
  refine⟨f1++E,R,⟨?_,L.part,L.tags,?_,?_,?_⟩⟩
  ·rw[Qb];exact XP f1 L.perm
  ·intro hf;obtain⟨b',o',m,H,G,h5⟩:=L.deep hf;exact⟨b',o',m,H,Qo _ G,h5⟩
  ·intro hf;rw[L.flat hf];cases base with
   |none=>rfl
   |some z=>simp[Z0g,Nat.add_assoc]
  ·intro w' F' St' Al' v C T x' tg' K hv Q B hp;simp only[Z0I]at K;rw[<-i1.2]at K;simp only[YD,YM,Qm]at K;obtain⟨⟨xa,ta⟩,Z,M⟩:=K;simp only[Qs]at M;obtain⟨rfl,rfl⟩:=M;obtain⟨D,Y,ab,r⟩:=L.put w' F' St' Al' v C T xa ta Z hv Q B (λc n=>hp c (Qo _ n))
   have h1':Rp w' F' St' Al' a t1 c1 x.1 f1:=h1.presO (λt ht=>V t (Qh _ ht)) λc n=>by
    refine(hp c (Qh _ n)).keep ?_;intro y j he;cases g:Z08 p with
    |true=>
     have:=L.flat g;rw[this]at j;cases q:base with
     |none=>rw[q]at j;cases j
     |some z=>rw[q]at j;cases j;have he':z.1=c:=he;exact hb z q (by rw[he'];exact Qh _ n)
    |false=>
     obtain⟨b',o',m,H,G,h5⟩:=L.deep g;rw[H]at j;cases j;exact(Qj.1 hn).2.2 _ n _ (P _ G) he.symm
   refine⟨f1++D,?_,?_,?_⟩
   ·rw[Qb];exact XP f1 Y
   ·intro t ht;rcases Qr.1 ht with ht | ht
    ·exact V t (Qh _ ht)
    ·exact ab t ht
   ·have hfe:Z08 (.snd::p)=Z08 p:=rfl;rw[hfe];cases g:Z08 p with
    |true=>
     simp only[g,XH]at r ⊢;rw[show Z0g (a.pair b) (.snd::p)=size a+Z0g b p from rfl,<-i1.1,Z2M]
     exact Rp.pair_mk h1' r
    |false=>
     simp only[g,Xj,XI]at r ⊢;exact Rp.pair_mk h1' r
 |.idx i::p,.slice e,tg,cs,I,x,fp,base,f,u,h,V,hn,hb,d,U=>by
  obtain⟨t,a,cap,rfl,rfl,hlc,h⟩:=h;obtain rfl:=V t (by simp)
  simp only[Z00]at d;split at d
  ·rename_i b o len cap' heq;simp only[X4,Value.slice.injEq,and_true]at heq;obtain⟨rfl,rfl,rfl⟩:=heq;split at d
   ·rename_i hi;split at d
    ·rename_i cse hce;rcases h with⟨_,hnn,_⟩ | ⟨ho,b',o',fps,hbb,hal,rfl,hlf,hr,hF,he⟩ | ⟨ho,_⟩
     ·cases hnn
     ·simp only[Q9,Addr.mk.injEq,and_true]at hbb;obtain⟨rfl,rfl⟩:=hbb;obtain⟨c2,hc2,hk⟩:=he i hi;rw[hce]at hc2;cases hc2;have J:Z04 e (List.get (α:=El e) x ⟨i,hi⟩) (List.replicate (Z06 e) .O) p=some u:=by
       simp only[Z04,List.headD_cons,Tag.inner]at U;rw[Z4e _ _ _ hi]at U;exact U
      have hfi:fps.getD i []=fps[i]'(by omega):=by rw[Qc,Qn (by omega)];rfl
      have hnf:fps.flatten.Nodup:=(Xx.1 hn).2;have hbn:b ∉ fps.flatten:=(Xx.1 hn).1;have hpf:=Z3K fps i (by omega)
      have aa:∀c∈fps[i]'(by omega),c∈fps.flatten:=λc n=>X3.2 ⟨_,Q7 _,n⟩
      have hni:(fps[i]'(by omega)).Nodup:=((Qj.1 ((hpf.nodup_iff).1 hnf)).2.1)
      have hbnd:o+i * size e+size e<=o+cap * size e:=by
       have:(i+1) * size e<=cap * size e:=Qt _ (by omega)
       rw[QC,Xg]at this;omega
      rw[hfi]at hk;obtain⟨E,R,L⟩:=Rp.lens (path:=p) hk (by simp[Tag.inner]) hni (λy j=>by
       cases j;exact λX=>hbn (aa _ X)) d J
      have P:∀c∈E,c∈fps[i]'(by omega):=λc n=>L.perm.symm.subset (Qh _ n)
      refine⟨b::((fps.set i []).flatten++E),R,⟨?_,L.part,L.tags,?_,by simp[Z08],?_⟩⟩
      ·rw[QL];refine List.Perm.cons _ (hpf.trans ?_);rw[Qb];exact XP _ L.perm
      ·intro _;cases g:Z08 p with
       |true=>
        have H:=L.flat g;simp only[XU]at H;have hsz:=Z1u g J;exact⟨b,_,o+cap * size e,H,by simp,by omega,hr.1⟩
       |false=>
        obtain⟨b',o',m,H,G,h5⟩:=L.deep g;exact⟨b',o',m,H,by simp[G],h5⟩
      ·intro w' F' St' Al' v C T x' tg' K hv Q B hp;simp only[Z0I,List.headD_cons,Tag.inner,Qm]at K;rw[Z4e _ _ _ hi]at K;obtain⟨⟨xa,ta⟩,Z,M⟩:=K;simp only[Qs]at M;obtain⟨rfl,rfl⟩:=M;obtain⟨D,Y,ab,r⟩:=L.put w' F' St' Al' v C T xa ta Z hv Q B (λc n=>hp c (by simp[n]))
       have hta:ta=List.replicate (Z06 e) .O:=by
        refine List.eq_replicate_iff.2 ⟨r.len.2,λt ht=>ab t ht⟩
       subst hta;have hpb:=hp b (by simp)
       have W:∀y,f=some y->(Z08 p=true/\y=(b,o+i * size e+Z0g e p))\/(Z08 p=false/\y.1∈fps[i]'(by omega)):=by
        intro y j;cases g:Z08 p with
        |true=>
         have H:=L.flat g;rw[H]at j;simp only[XU,Q9]at j;exact .inl ⟨rfl,j.symm⟩
        |false=>
         obtain⟨b',o',m,H,G,h5⟩:=L.deep g;rw[H]at j;cases j;exact .inr ⟨rfl,P _ G⟩
       have hcl:C.length=size u.τ:=by rw[B.len.1,hv]
       have hrow:(Z3h e w' b (o+cap * size e))/\∀k (hk:k<List.length (α:=El e) x) c,Z05 w b (o+k * size e) (size e)=some c ->
         Z05 w' b (o+k * size e) (size e)=some (if k=i then (if Z08 p then Z0c c (Z0g e p) C else c) else c):=by
        cases g:Z08 p with
        |true=>
         have hsz:=Z1u g J;have H:f=some (b,o+i * size e+Z0g e p):=by rw[L.flat g];rfl
         have G:w'.heap[b]? = (Z0m w b (o+i * size e+Z0g e p) C).heap[b]? := by rw[hpb.2.2,H];rfl
         refine⟨⟨(Z3M G).2 (Z4O (m:=o+cap * size e) (by omega) hr.1 hr.1),hr.2.imp id λX=>(Z2C G).2 (Z3C (m:=o+cap * size e) (by omega) hr.1 X)⟩,λk hk c n=> ?_⟩
         rw[Z0Z G];by_cases A:k=i
         ·subst A;simp only[XH];have:=Z3G (w:=w) (o':=o+k * size e+Z0g e p) (l:=C) (by omega) (by omega) n
          rw[show o+k * size e+Z0g e p-(o+k * size e)=Z0g e p by omega]at this
          exact this
         ·simp only[A,XI];refine Z2j ⟨o+cap * size e,by omega,hr.1⟩ ?_ n
          rcases Nat.lt_or_gt_of_ne A with hlt | hgt
          ·left;have:(k+1) * size e<=i * size e:=Qt _ hlt;rw[QC,Xg]at this;omega
          ·right;have:(i+1) * size e<=k * size e:=Qt _ hgt;rw[QC,Xg]at this;omega
        |false=>
         have G:w'.heap[b]? = w.heap[b]? := by
          rw[hpb.2.2];cases q:f with
          |none=>rfl
          |some y=>
           rcases W y q with⟨hf,_⟩ | ⟨_,X⟩
           ·rw[g]at hf;cases hf
           ·exact Z14 (λhe=>hbn (aa _ (by rw[he];exact X)))
         refine⟨⟨(Z3M G).2 hr.1,hr.2.imp id (Z2C G).2⟩,λk hk c n=> ?_⟩
         rw[Z0Z G,n];by_cases A:k=i<;>simp[A]
       refine⟨b::(fps.set i D).flatten,?_,by simp,?_⟩
       ·rw[QL];refine List.Perm.cons _ ((Z5v fps i D (by omega)).trans ?_)
        rw[Qb];exact XP _ Y
       ·simp only[Z08,Xj,XI];refine⟨.O,some ⟨b,o,none⟩,cap,rfl,by simp,by simpa using hlc,.inr (.inl ⟨rfl,b,o,fps.set i D,rfl,hpb.2.1 hal,rfl,by simpa using hlf,hrow.1,?_,λk hk=> ?_⟩)⟩
        ·rw[hpb.1,hF];simp
        ·have hk0:k<List.length (α:=El e) x:=by simpa using hk
         obtain⟨c,n,hkr⟩:=he k hk0;refine⟨_,hrow.2 k hk0 c n,?_⟩;by_cases A:k=i
         ·subst A;rw[hce]at n;cases n;simp only[XH];have e1:List.get (α:=El e) (List.set x k xa) ⟨k,hk⟩=xa:=by simp
          have e2:(fps.set k D).getD k []=D:=by
           rw[Qc,List.getElem?_set_self (by omega)];rfl
          rw[e1,e2];exact r
         ·simp only[A,XI];have e1:List.get (α:=El e) (List.set x i xa) ⟨k,hk⟩=List.get (α:=El e) x ⟨k,hk0⟩:=by
           simp only[List.get_eq_getElem];exact List.getElem_set_ne (Ne.symm A) _
          have e2:(fps.set i D).getD k []=fps.getD k []:=by
           simp only[Qc];rw[List.getElem?_set_ne (Ne.symm A)]
          rw[e1,e2];refine hkr.presO (by simp[Tag.inner]) λc hcm=> ?_
          have hck:c∈(fps.set i []).flatten:=by
           refine X3.2 ⟨fps[k]'(by omega),?_,?_⟩
           ·have:(fps.set i [])[k]'(by simp;omega)=fps[k]'(by omega):=List.getElem_set_ne (Ne.symm A) _
            rw[<-this];exact Q7 _
           ·rw[Qc,Qn (by omega)]at hcm;exact hcm
          refine(hp c (by simp[hck])).keep ?_
          intro y j hyc;rcases W y j with⟨_,hyb⟩ | ⟨_,X⟩
          ·rw[hyb]at hyc;simp only at hyc;refine hbn (X3.2 ⟨fps[k]'(by omega),Q7 _,?_⟩)
           rw[Qc,Qn (by omega)]at hcm
           rw[hyc];exact hcm
          ·have:=(Qj.1 ((hpf.nodup_iff).1 hnf)).2.2 c hck y.1 X;exact this hyc.symm
     ·cases ho
    ·cases d
   ·cases d
  ·cases d
 |.fst::_,.int _,_,_,_,_,_,_,_,_,_,_,_,_,d,_=>by simp[Z00]at d
 |.fst::_,.bool,_,_,_,_,_,_,_,_,_,_,_,_,d,_=>by simp[Z00]at d
 |.fst::_,.str,_,_,_,_,_,_,_,_,_,_,_,_,d,_=>by simp[Z00]at d
 |.fst::_,.unit,_,_,_,_,_,_,_,_,_,_,_,_,d,_=>by simp[Z00]at d
 |.fst::_,.slice _,_,_,_,_,_,_,_,_,_,_,_,_,d,_=>by simp[Z00]at d
 |.snd::_,.int _,_,_,_,_,_,_,_,_,_,_,_,_,d,_=>by simp[Z00]at d
 |.snd::_,.bool,_,_,_,_,_,_,_,_,_,_,_,_,d,_=>by simp[Z00]at d
 |.snd::_,.str,_,_,_,_,_,_,_,_,_,_,_,_,d,_=>by simp[Z00]at d
 |.snd::_,.unit,_,_,_,_,_,_,_,_,_,_,_,_,d,_=>by simp[Z00]at d
 |.snd::_,.slice _,_,_,_,_,_,_,_,_,_,_,_,_,d,_=>by simp[Z00]at d
 |.idx _::_,.int _,_,_,_,_,_,_,_,_,_,_,_,_,d,_=>by simp[Z00]at d
 |.idx _::_,.bool,_,_,_,_,_,_,_,_,_,_,_,_,d,_=>by simp[Z00]at d
 |.idx _::_,.str,_,_,_,_,_,_,_,_,_,_,_,_,d,_=>by simp[Z00]at d
 |.idx _::_,.unit,_,_,_,_,_,_,_,_,_,_,_,_,d,_=>by simp[Z00]at d
 |.idx _::_,.pair _ _,_,_,_,_,_,_,_,_,_,_,_,_,d,_=>by simp[Z00]at d
end
end Go.PI
namespace Go.PI
theorem Z3d {w w':World}{F F':Nat->Nat}{St Al:Nat->Prop}(n:∀b,St b->Z07 w F w' F' b) :
  {path:List Step}->{τ:Ty}->{tg:List Tag}->{cs:List Value}->{x:El τ}->{fp:List Nat}->{base:Option (Nat×Nat)}->{r:List Value×Option (Nat×Nat)} ->
  Rp w F St Al τ tg cs x fp->(∀b∈fp,Z07 w F w' F' b)->((∀t∈tg,t.isN=false)\/∀b,b<w.heap.size->Al b->Z07 w F w' F' b) ->
  Z00 w τ cs base path=some r->Z00 w' τ cs base path=some r
 | [],τ,tg,cs,x,fp,base,r,h,l,f,d=>by simp only[Z00]at d ⊢;exact d
 |.fst::p,.pair a b,tg,cs,x,fp,base,r,h,l,f,d=>by
  have z:=h.len;obtain⟨t1,t2,P,A,R,T,rfl,rfl,rfl,y,J⟩:=h;have z:=y.len;simp only[Z00]at d ⊢;rw[<-z.1]at d ⊢;rw[YD]at d ⊢
  all_goals first | rfl | skip
  exact Z3d n (path:=p) y (λb B=>l b (Qh _ B)) (f.imp (λh t ht=>h t (Qh _ ht)) id) d
 |.snd::p,.pair a b,tg,cs,x,fp,base,r,h,l,f,d=>by
  obtain⟨t1,t2,P,A,R,T,rfl,rfl,rfl,y,J⟩:=h;have z:=y.len;simp only[Z00]at d ⊢;rw[<-z.1]at d ⊢;rw[YM]at d ⊢
  all_goals first | rfl | skip
  exact Z3d n (path:=p) J (λb B=>l b (Qo _ B)) (f.imp (λh t ht=>h t (Qo _ ht)) id) d
 |.idx i::p,.slice e,tg,cs,x,fp,base,r,h,l,f,d=>by
  obtain⟨t,a,cap,rfl,rfl,Y,h⟩:=h;have m:((∀t'∈List.replicate (Z06 e) t.inner,t'.isN=false)\/∀b,b<w.heap.size->Al b->Z07 w F w' F' b):=
   f.imp (λh t' H=>by
    obtain⟨_,rfl⟩:=XC.1 H;have:=h t (by simp)
    cases t<;>simp_all[Tag.isN,Tag.inner]) id
  simp only[Z00]at d ⊢;split at d
  ·rename_i b o len I q;simp only[X4,Value.slice.injEq,and_true]at q;obtain⟨rfl,rfl,rfl⟩:=q;split at d
   ·rename_i u;split at d
    ·rename_i Q k;simp only[u,XH];have W:o+i * size e+size e<=o+List.length (α:=El e) x * size e:=by
      have:(i+1) * size e<=List.length (α:=El e) x * size e:=Qt _ u;rw[QC,Xg]at this;omega
     rcases h with⟨_,hn,_⟩ | ⟨K,L,o',fps,g,V,rfl,Z,hr,U,C⟩ | ⟨K,rfl,h⟩
     ·cases hn
     ·simp only[Q9,Addr.mk.injEq,and_true]at g;obtain⟨rfl,rfl⟩:=g;obtain⟨A,j,D⟩:=C i u;rw[k]at j;cases j;rw[(l b (by simp)).2.1 _ _ _ (by omega) k]
      refine Z3d n (path:=p) D (λc X=>l c ?_) m d
      refine Qa _ (X3.2 ⟨_,?_,X⟩);rw[Qc,Qn (by omega)]
      exact Q7 _
     ·rcases h with h | ⟨L,o',g,v,U,C⟩
      ·subst h;simp at u
      ·simp only[Q9,Addr.mk.injEq,and_true]at g;obtain⟨rfl,rfl⟩:=g;obtain⟨A,j,D⟩:=C i u;have E:Z07 w F w' F' b:=by
        rcases f with f | f
        ·have:=f t (by simp)
         cases t<;>simp_all[Tag.isN,Tag.own,Z5f]
        ·cases t with
         |S=>exact n b v
         |N=>exact f b (Z0W k) v
         |_=>cases K
       rw[E.2.1 _ _ _ (by omega) k]
       rw[k]at j;cases j;exact Z3d n (path:=p) D (by simp) m d
    ·cases d
   ·cases d
  ·cases d
 |.fst::_,.int _,_,_,_,_,_,_,_,_,_,d=>by simp[Z00]at d
 |.fst::_,.bool,_,_,_,_,_,_,_,_,_,d=>by simp[Z00]at d
 |.fst::_,.str,_,_,_,_,_,_,_,_,_,d=>by simp[Z00]at d
 |.fst::_,.unit,_,_,_,_,_,_,_,_,_,d=>by simp[Z00]at d
 |.fst::_,.slice _,_,_,_,_,_,_,_,_,_,d=>by simp[Z00]at d
 |.snd::_,.int _,_,_,_,_,_,_,_,_,_,d=>by simp[Z00]at d
 |.snd::_,.bool,_,_,_,_,_,_,_,_,_,d=>by simp[Z00]at d
 |.snd::_,.str,_,_,_,_,_,_,_,_,_,d=>by simp[Z00]at d
 |.snd::_,.unit,_,_,_,_,_,_,_,_,_,d=>by simp[Z00]at d
 |.snd::_,.slice _,_,_,_,_,_,_,_,_,_,d=>by simp[Z00]at d
 |.idx _::_,.int _,_,_,_,_,_,_,_,_,_,d=>by simp[Z00]at d
 |.idx _::_,.bool,_,_,_,_,_,_,_,_,_,d=>by simp[Z00]at d
 |.idx _::_,.str,_,_,_,_,_,_,_,_,_,d=>by simp[Z00]at d
 |.idx _::_,.unit,_,_,_,_,_,_,_,_,_,d=>by simp[Z00]at d
 |.idx _::_,.pair _ _,_,_,_,_,_,_,_,_,_,d=>by simp[Z00]at d
inductive Who where
 |s (i:Nat) | c (i:Nat) | a (i:Nat) | x
 deriving DecidableEq
structure Ghost where
 F:Nat->Nat
 St:Nat->Prop
 who:Nat->Option Who
 fs:Nat->List Nat
 fb:Nat->List Nat
 ad:Nat->Nat
def Ghost.Al (G:Ghost)(b:Nat):Prop:=(∀i,G.who b≠some (.a i))/\(G.who b=none->G.St b)
def Z02:Value->List Value
 |.tuple vs=>vs.toList.flatMap λv=>v.cells.toList
 |v=>v.cells.toList
def one:Value->Bool
 |.agg _=>false
 |.tuple _=>false
 |_=>true
def Z0f:Bool->Value->Prop
 |true,v=>∃cs,v= .agg cs
 |false,v=>one v=true
theorem Z0f.cells {ag:Bool}{v:Value}(h:Z0f ag v):Z02 v=v.cells.toList:=by
 cases ag
 ·cases v<;>simp_all[Z0f,one,Z02]
 ·obtain⟨cs,rfl⟩:=h;rfl
def Z1d:Ty->List Bool->List Value->Prop
 | τ,[ag],[v]=>Z0f ag v/\(Z02 v).length=size τ
 |.pair a b,ag::d::ags,v::vs=>Z0f ag v/\(Z02 v).length=size a/\Z1d b (d::ags) vs
 |_,_,_=>False
def Z09 (G:Ghost)(a:Act)(w:World)(p:Place):Option (List Value×Option (Nat×Nat)):=
 match p.box with
 |true=>match w.heap[G.ad p.root]? with
  |some (.cells c _ _)=>some (c.toList,some (G.ad p.root,0))
  |_=>none
 |false=>some (Z02 (a.tmps.getD p.root undef),none)
noncomputable def State.ct (σ:State)(p:Place):Option Ty:=(σ.content p).map (·.τ)
def Z0A (σ:State)(G:Ghost)(a:Act)(w:World)(p:Place)(cs:List Value)(base:Option (Nat×Nat)):Prop:=
 ∃τ l b,σ.ct p=some τ/\Z09 G a w p=some (l,b)/\Z00 w τ l b p.path=some (cs,base)
def Z0w (σ:State)(G:Ghost)(a:Act)(w:World)(p:Place)(v:Value):Prop:=
 σ.ct p=none\/∃cs b,Z0A σ G a w p cs (some b)/\v= .pointer (some ⟨b.1,b.2,none⟩)
def Z2D (w:World)(F:Nat->Nat)(St Al:Nat->Prop)(τ:Ty)(x:El τ)(v:Value):Prop:=
 ∃b o cs,v= .pointer (some ⟨b,o,none⟩)/\Z05 w b o (size τ)=some cs/\St b/\o+size τ<=F b/\Rp w F St Al τ (List.replicate (Z06 τ) .S) cs x []
def SPs (w:World)(F:Nat->Nat)(St Al:Nat->Prop):List Ty->(τ:Ty)->El τ->List Value->Prop
 | [],_,_,us=>us=[]
 | [e],τ,x,us=>e=τ/\∃u,us=[u]/\Z2D w F St Al τ x u
 |e::f::g,.pair a b,x,us=>e=a/\∃u d,us=u::d/\Z2D w F St Al a x.1 u/\SPs w F St Al (f::g) b x.2 d
 |_,_,_,_=>False
theorem Z2D.pres {w w':World}{F F':Nat->Nat}{St Al St' Al':Nat->Prop}(d:∀b,St b->St' b)(e:∀b,b<w.heap.size->Al b->Al' b)(i:∀b,St b->Z07 w F w' F' b){τ:Ty}{x:El τ}{v:Value}(h:Z2D w F St Al τ x v):Z2D w' F' St' Al' τ x v:=by
 obtain⟨b,o,cs,k,l,f,g,m⟩:=h;have j:=i b f;exact⟨b,o,cs,k,j.2.1 _ _ _ g l,d b f,Qx g j.1,m.pres d e i (by simp) (.inl λt ht=>by rw[(XC.1 ht).2];rfl)⟩
theorem SPs.pres {w w':World}{F F':Nat->Nat}{St Al St' Al':Nat->Prop}(e:∀b,St b->St' b)(d:∀b,b<w.heap.size->Al b->Al' b)(k:∀b,St b->Z07 w F w' F' b) :
  (g:List Ty)->(τ:Ty)->(x:El τ)->(us:List Value)->SPs w F St Al g τ x us->SPs w' F' St' Al' g τ x us
 | [],_,_,_,h=>h
 | [_],_,_,_,h=>⟨h.1,let ⟨u,i,j⟩:=h.2;⟨u,i,j.pres e d k⟩⟩
 |_::l::g,.pair a b,x,_,h=>⟨h.1,let ⟨u,f,i,j,m⟩:=h.2;⟨u,f,i,j.pres e d k,SPs.pres e d k (l::g) b x.2 f m⟩⟩
 |_::_::_,.int _,_,_,h=>h.elim
 |_::_::_,.bool,_,_,h=>h.elim
 |_::_::_,.str,_,_,h=>h.elim
 |_::_::_,.unit,_,_,h=>h.elim
 |_::_::_,.slice _,_,_,h=>h.elim
def Z01 (σ:State)(G:Ghost)(a:Act)(w:World):TV->Value->List Nat->Prop
 |.dead,_,fp=>fp=[]
 |.un,v,fp=>v=undef/\fp=[]
 |.nil,v,fp=>v= .slice none 0 0/\fp=[]
 |.val u,v,fp=>Z0f u.ag v/\Rp w G.F G.St G.Al u.τ u.tg (Z02 v) u.x fp
 |.tup u ags,v,fp=>(∃vs,v= .tuple vs/\Z1d u.τ ags vs.toList)/\Rp w G.F G.St G.Al u.τ u.tg (Z02 v) u.x fp
 |.ref p ag,v,fp=>fp=[]/\(σ.ct p=none\/∃cs base,Z0A σ G a w p cs base/\Z02 v=cs/\Z0f ag v)
 |.ptr p,v,fp=>fp=[]/\p.box=true/\Z08 p.path=true/\Z0w σ G a w p v
 |.eptr u t,v,fp=>fp=[]/\t.own=false/\∃b o cs,v= .pointer (some ⟨b,o,none⟩)/\Z05 w b o (size u.τ)=some cs/\Z5f G.St G.Al t b/\o+size u.τ<=G.F b /\
   (t.isN=false->∀t'∈u.tg,t'.isN=false)/\Rp w G.F G.St G.Al u.τ u.tg cs u.x []
 |.eref p,v,fp=>fp=[]/\Z0w σ G a w p v
 |.sptr r e p,v,fp=>fp=[]/\Z08 p=true/\∃b o τ,v= .pointer (some ⟨b,o,none⟩)/\Z0d e p=some τ/\(Z02 (a.tmps.getD r undef)).length=size e /\
   Z05 w b o (size τ)=some (((Z02 (a.tmps.getD r undef)).drop (Z0g e p)).take (size τ))/\G.St b/\o+size τ<=G.F b
 |.tref t ags,v,fp=>fp=[]/\∀τ,σ.ct ⟨false,t,[]⟩=some τ->Z09 G a w ⟨false,t,[]⟩=some (Z02 v,none)/\∃vs,v= .tuple vs/\Z1d τ ags vs.toList
 |.clos f d,v,fp=>fp=[]/\∃vs:Array Value,v= .func (.func f) #[] vs/\vs.size=d.length/\∀i (h:i<d.length),d[i].box=true/\Z08 d[i].path=true/\Z0w σ G a w d[i] (vs.getD i undef)
 |.sclos f g u,v,fp=>fp=[]/\∃us:Array Value,v= .func (.func f) #[] us/\SPs w G.F G.St G.Al g u.τ u.x us.toList
structure Ext (M:Nat->Prop)(w w':World):Prop where
 os:w'.os=w.os
 tape:w'.tape=w.tape
 output:w'.output=w.output
 size:w.heap.size<=w'.heap.size
 block:∀b,b<w.heap.size->¬ M b->w'.heap[b]? = w.heap[b]?
theorem Ext.refl (M:Nat->Prop)(w:World):Ext M w w:=⟨rfl,rfl,rfl,Qq _,λ_ _ _=>rfl⟩
structure Base extends World where
 ad0:Nat->Nat
 F0:Nat->Nat
 St0:Nat->Prop
 np:Nat
 arg:Nat->Value
structure Org (W0:Base)(M:Nat->Prop)(G:Ghost):Prop where
 F:∀b,b<W0.heap.size->¬ M b->G.F b=W0.F0 b
 St:∀b,W0.St0 b->G.St b
 St':∀b,G.St b->W0.St0 b\/W0.heap.size<=b\/M b
structure Inv (W0:Base)(M:Nat->Prop)(σ:State)(a:Act)(w:World)(G:Ghost)(xs:List Nat):Prop where
 defers:a.defers=[]
 len:a.tmps.size=σ.slots.length
 slot:∀i,i<σ.slots.length->Z01 σ G a w (σ.slot i) (a.tmps.getD i undef) (G.fs i)
 box:∀i v,σ.boxAt i=some v->(∃c T,w.heap[G.ad i]? = some (.cells c T (0,0))/\Rp w G.F G.St G.Al v.τ v.tg c.toList v.x (G.fb i))/\G.who (G.ad i)=some (.a i)
 whoS:∀i b,b∈G.fs i->G.who b=some (.s i)
 whoC:∀i b,b∈G.fb i->G.who b=some (.c i)
 whoX:∀b,b∈xs->G.who b=some .x
 nodS:∀i,(G.fs i).Nodup
 nodC:∀i,(G.fb i).Nodup
 nodX:xs.Nodup
 st:∀b,G.St b->G.who b=none/\b<w.heap.size
 lt:∀b z,G.who b=some z->b<w.heap.size/\(W0.heap.size<=b\/M b)
 ext:Ext M W0.toWorld w
 adx:∀i,σ.slots.length<=i->G.ad i=W0.ad0 i
 org:Org W0 M G
 pin:∀i,i<W0.np->a.tmps.getD i undef=W0.arg i
theorem Ghost.St_Al {W0:Base}{M:Nat->Prop}{σ:State}{a:Act}{w:World}{G:Ghost}{xs:List Nat}(I:Inv W0 M σ a w G xs):∀b,G.St b->G.Al b:=
 λb d=>⟨λi h=>(by rw[(I.st b d).1]at h;cases h),λ_=>d⟩
noncomputable def TV.noN:TV->Bool
 |.val u=>u.noN
 |.tup u _=>u.noN
 |.eptr _ t=> !t.isN
 |_=>true
def State.noN (σ:State):Prop:=(∀i,(σ.slot i).noN=true)/\∀i v,σ.boxAt i=some v->v.noN=true
theorem TVal.noN_iff {v:TVal}:v.noN=true↔∀t∈v.tg,t.isN=false:=by
 unfold TVal.noN;rw[QD];constructor
 ·intro h t ht;have:=h t ht;cases t<;>simp_all[Tag.isN]
 ·intro h t ht;have:=h t ht;cases t<;>simp_all[Tag.isN]
section
variable {W0:Base}{M:Nat->Prop}{σ:State}{a:Act}{w:World}{G:Ghost}{xs:List Nat}
theorem Z0F {p:Place}{c:TVal}(I:Inv W0 M σ a w G xs)(h:σ.content p=some c) :
  ∃l b fp,Z09 G a w p=some (l,b)/\Rp w G.F G.St G.Al c.τ c.tg l c.x fp /\
   ((p.box=true/\σ.boxAt p.root=some c/\fp=G.fb p.root/\b=some (G.ad p.root,0)) \/
    (p.box=false/\p.root<σ.slots.length/\fp=G.fs p.root/\b=none/\(σ.slot p.root= .val c\/∃ags,σ.slot p.root= .tup c ags))):=by
 obtain⟨box,d,path⟩:=p;cases box with
 |true=>
  simp only[State.content]at h;obtain⟨⟨cs,T,m,n⟩,_⟩:=I.box d c h;exact⟨cs.toList,some (G.ad d,0),_,by simp[Z09,m],n,.inl ⟨rfl,h,rfl,rfl⟩⟩
 |false=>
  simp only[State.content]at h;have e:d<σ.slots.length:=by
   rcases Yi d σ.slots.length with j | j
   ·exact j
   ·have:∀(l:List TV) (i:Nat),l.length<=i->Z0u TV.dead l i= .dead:=by
     intro l;induction l with
     |nil=>intro i _;rfl
     |cons t l q=>intro i k;cases i with
      |zero=>simp at k
      |succ i=>exact q i (by simpa using k)
    simp[State.slot,this _ _ j]at h
  have g:=I.slot d e;cases f:σ.slot d with
  |val v=>
   rw[f]at h g;cases h;exact⟨_,none,G.fs d,rfl,g.2,.inr ⟨rfl,e,rfl,rfl,.inl rfl⟩⟩
  |tup v ags=>
   rw[f]at h g;cases h;exact⟨_,none,G.fs d,rfl,g.2,.inr ⟨rfl,e,rfl,rfl,.inr ⟨ags,rfl⟩⟩⟩
  |_=>rw[f]at h;cases h
structure Same (σ:State)(w:World)(G:Ghost)(w':World)(G':Ghost):Prop where
 fs:G'.fs=G.fs
 fb:G'.fb=G.fb
 ad:G'.ad=G.ad
 who:∀b z,G.who b=some z->z≠ .x->G'.who b=some z
 Al:∀b,b<w.heap.size->G.Al b->G'.Al b
 St:∀b,G.St b->G'.St b
 S:∀b,G.St b->Z07 w G.F w' G'.F b
 own:∀b z,G.who b=some z->(∀i,z≠ .a i)->z≠ .x->Z07 w G.F w' G'.F b/\G'.F b=G.F b
 box:∀i v,σ.boxAt i=some v->w'.heap[G.ad i]? = w.heap[G.ad i]?
 N:σ.noN\/∀b,b<w.heap.size->G.Al b->Z07 w G.F w' G'.F b
theorem Z0A.world {w':World}{G':Ghost}(I:Inv W0 M σ a w G xs)(S:Same σ w G w' G'){p:Place}{cs:List Value}{base:Option (Nat×Nat)}(h:Z0A σ G a w p cs base) :
  Z0A σ G' a w' p cs base:=by
 obtain⟨τ,l,b,g,j,v⟩:=h;obtain⟨c,u,rfl⟩:=Qm.1 g;obtain⟨l',y,fp,i,m,n⟩:=Z0F I u;rw[j]at i;cases i;refine⟨c.τ,l,b,g,?_,?_⟩
 ·obtain⟨box,r,path⟩:=p;rcases n with⟨f,d,_⟩ | ⟨f,_⟩
  ·simp only at f d;subst f;simp only[Z09]at j ⊢;rw[S.ad,S.box _ _ d];exact j
  ·simp only at f;subst f;exact j
 ·refine Z3d S.S m (λx q=> ?_) ?_ v
  ·rcases n with⟨_,_,rfl,_⟩ | ⟨_,_,rfl,_⟩
   ·exact(S.own x _ (I.whoC _ x q) (by simp) (by simp)).1
   ·exact(S.own x _ (I.whoS _ x q) (by simp) (by simp)).1
  ·refine S.N.imp (λk=> ?_) id
   rcases n with⟨_,d,_⟩ | ⟨_,_,_,_,e | ⟨ags,e⟩⟩
   ·exact TVal.noN_iff.1 (k.2 _ _ d)
   ·have:=k.1 p.root;rw[e]at this;exact TVal.noN_iff.1 this
   ·have:=k.1 p.root;rw[e]at this;exact TVal.noN_iff.1 this
theorem Z0w.world {w':World}{G':Ghost}(I:Inv W0 M σ a w G xs)(S:Same σ w G w' G'){p:Place}{v:Value}(h:Z0w σ G a w p v):Z0w σ G' a w' p v:=
 h.imp id λ⟨cs,b,d,e⟩=>⟨cs,b,d.world I S,e⟩
theorem Rp.world {w':World}{G':Ghost}(S:Same σ w G w' G'){τ:Ty}{tg:List Tag}{cs:List Value}{x:El τ}{fp:List Nat}(h:Rp w G.F G.St G.Al τ tg cs x fp)
  (k:∀b∈fp,∃z,G.who b=some z/\(∀i,z≠ .a i)/\z≠ .x) (g:σ.noN->∀t∈tg,t.isN=false):Rp w' G'.F G'.St G'.Al τ tg cs x fp:=
 h.pres S.St S.Al S.S (λb j=>let ⟨z,d,e,f⟩:=k b j;S.own b z d e f) (S.N.imp g id)
theorem Z01.world {w':World}{G':Ghost}(I:Inv W0 M σ a w G xs)(S:Same σ w G w' G'){tv:TV}{v:Value}{fp:List Nat}(h:Z01 σ G a w tv v fp)
  (C:∀b∈fp,∃z,G.who b=some z/\(∀i,z≠ .a i)/\z≠ .x) (A:σ.noN->tv.noN=true):Z01 σ G' a w' tv v fp:=by
 cases tv with
 |dead=>exact h
 |un=>exact h
 |nil=>exact h
 |val u=>exact⟨h.1,h.2.world S C λj=>TVal.noN_iff.1 (A j)⟩
 |tup u ags=>exact⟨h.1,h.2.world S C λj=>TVal.noN_iff.1 (A j)⟩
 |ref p ag=>exact⟨h.1,h.2.imp id λ⟨cs,b,e,d⟩=>⟨cs,b,e.world I S,d⟩⟩
 |ptr p=>exact⟨h.1,h.2.1,h.2.2.1,h.2.2.2.world I S⟩
 |eref p=>exact⟨h.1,h.2.world I S⟩
 |tref t ags=>exact h
 |sptr r E p=>
  obtain⟨e,d,b,o,τ,k,g,l,q,m,y⟩:=h;have n:=S.S b m;exact⟨e,d,b,o,τ,k,g,l,n.2.1 _ _ _ y q,S.St b m,Qx y n.1⟩
 |clos f D=>
  obtain⟨e,vs,d,k,g⟩:=h;exact⟨e,vs,d,k,λi B=>⟨(g i B).1,(g i B).2.1,(g i B).2.2.world I S⟩⟩
 |sclos f H u=>
  obtain⟨e,us,d,k⟩:=h;exact⟨e,us,d,SPs.pres S.St S.Al S.S _ _ _ _ k⟩
 |eptr u t=>
  obtain⟨e,d,b,o,cs,k,g,l,q,m,y⟩:=h;have n:Z07 w G.F w' G'.F b:=by
   rcases S.N with j | j
   ·have:=A j;cases t<;>simp_all[TV.noN,Tag.isN,Tag.own,Z5f];exact S.S b l
   ·cases t with
    |S=>exact S.S b l
    |N=>exact j b (Z0W g) l
    |_=>cases d
  refine⟨e,d,b,o,cs,k,n.2.1 _ _ _ q g,?_,Qx q n.1,m,y.world S (by simp) λj=>m ?_⟩
  ·cases t with
   |S=>exact S.St b l
   |N=>exact S.Al b (Z0W g) l
   |_=>cases d
  ·have:=A j;cases t<;>simp_all[TV.noN,Tag.isN]
theorem Inv.world {w':World}{G':Ghost}(I:Inv W0 M σ a w G xs)(S:Same σ w G w' G')(h:∀b,G'.St b->G'.who b=none/\b<w'.heap.size)
  (f:∀b z,G'.who b=some z->b<w'.heap.size/\(W0.heap.size<=b\/M b)) (k:Ext M W0.toWorld w') {e:List Nat} (p:∀b∈e,G'.who b=some .x) (j:e.Nodup) (l:Org W0 M G')
  : Inv W0 M σ a w' G' e where
 defers:=I.defers
 len:=I.len
 slot i hi:=by
  rw[S.fs];refine(I.slot i hi).world I S (λb d=>⟨_,I.whoS i b d,by simp,by simp⟩) λg=>g.1 i
 box i v hv:=by
  obtain⟨⟨c,T,d,m⟩,n⟩:=I.box i v hv;rw[S.ad,S.fb,S.box i v hv];refine⟨⟨c,T,d,m.world S (λb d=>⟨_,I.whoC i b d,by simp,by simp⟩) λg=>TVal.noN_iff.1 (g.2 i v hv)⟩,?_⟩
  exact S.who _ _ n (by simp)
 whoS i b d:=by rw[S.fs]at d;exact S.who b _ (I.whoS i b d) (by simp)
 whoC i b d:=by rw[S.fb]at d;exact S.who b _ (I.whoC i b d) (by simp)
 whoX:=p
 nodS i:=by rw[S.fs];exact I.nodS i
 nodC i:=by rw[S.fb];exact I.nodC i
 nodX:=j
 st:=h
 lt:=f
 ext:=k
 adx i hi:=by rw[S.ad];exact I.adx i hi
 org:=l
 pin:=I.pin
end
end Go.PI
namespace Go.PI
theorem Z2e {α:Type}{d:α}:∀(l:List α) (i:Nat),l.length<=i->Z0u d l i=d
 | [],_,_=>rfl
 |a::l,0,h=>by simp at h
 |a::l,i+1,h=>Z2e l i (by simpa using h)
theorem Z0E {α:Type}:∀(l:List α) (i:Nat) (v:α),(Z0G l i v).length=l.length
 | [],_,_=>rfl
 |_::_,0,_=>rfl
 |_::l,i+1,v=>by simp[Z1h,Z0E l i v]
theorem Z0S {α:Type}{d:α}:∀(l:List α) (i j:Nat) (v:α),Z0u d (Z0G l i v) j=if i=j/\i<l.length then v else Z0u d l j
 | [],i,j,v=>by simp[Z2u,Z28,Z1h,Z0x,Z0s,Z0p]
 |a::l,0,0,v=>by simp[Z2u,Z28,Z1h,Z0x,Z0s,Z0p]
 |a::l,0,j+1,v=>by simp[Z2u,Z28,Z1h,Z0x,Z0s,Z0p]
 |a::l,i+1,0,v=>by simp[Z2u,Z28,Z1h,Z0x,Z0s,Z0p]
 |a::l,i+1,j+1,v=>by simp[Z1h,Z0p,Z0S l i j v]
theorem Z2r {α:Type}{d:α}(f:α->α)(b:f d=d):∀(l:List α) (i:Nat),Z0u d (Z51 f l) i=f (Z0u d l i)
 | [],_=>b.symm
 |a::l,0=>rfl
 |a::l,i+1=>Z2r f b l i
theorem Z6t {α:Type}:∀(l:List α) (i:Nat) (v:α),l.length<=i->Z0G l i v=l
 | [],_,_,_=>rfl
 |_::_,0,_,h=>by simp at h
 |a::l,i+1,v,h=>by simp[Z1h,Z6t l i v (by simpa using h)]
section
variable {W0:Base}{M:Nat->Prop}{σ:State}{a:Act}{w:World}{G:Ghost}{xs:List Nat}
def Z83 (σ σ':State):Prop:=∀p,σ'.ct p=σ.ct p\/σ'.ct p=none
theorem Z0w.less {σ':State}(j:Z83 σ σ'){p:Place}{v:Value}(h:Z0w σ G a w p v):Z0w σ' G a w p v:=by
 rcases j p with d | d
 ·rcases h with h | ⟨cs,b,⟨τ,l,e,f,g⟩,i⟩
  ·exact .inl (d.trans h)
  ·exact .inr ⟨cs,b,⟨τ,l,e,d.trans f,g⟩,i⟩
 ·exact .inl d
theorem Z01.less {σ':State}(e:Z83 σ σ'){tv:TV}{v:Value}{fp:List Nat}(h:Z01 σ G a w tv v fp):Z01 σ' G a w tv v fp:=by
 cases tv with
 |dead=>exact h
 |un=>exact h
 |nil=>exact h
 |val u=>exact h
 |tup u ags=>exact h
 |eptr u t=>exact h
 |sclos f B u=>exact h
 |sptr r A p=>exact h
 |ptr p=>exact⟨h.1,h.2.1,h.2.2.1,h.2.2.2.less e⟩
 |eref p=>exact⟨h.1,h.2.less e⟩
 |tref t ags=>
  refine⟨h.1,λτ q=> ?_⟩
  rcases e ⟨false,t,[]⟩with d | d
  ·exact h.2 τ (d.symm.trans q)
  ·rw[d]at q;cases q
 |clos f z=>
  obtain⟨g,vs,j,k,m⟩:=h;exact⟨g,vs,j,k,λi n=>⟨(m i n).1,(m i n).2.1,(m i n).2.2.less e⟩⟩
 |ref p ag=>
  refine⟨h.1,?_⟩;rcases e p with d | d
  ·rcases h.2 with h | ⟨cs,b,⟨τ,l,y,g,j⟩,k⟩
   ·exact .inl (d.trans h)
   ·exact .inr ⟨cs,b,⟨τ,l,y,d.trans g,j⟩,k⟩
  ·exact .inl d
theorem Inv.drop (I:Inv W0 M σ a w G xs){σ':State}(d:σ'.slots.length=σ.slots.length)(m:∀i,σ'.slot i=σ.slot i\/σ'.slot i= .dead)
  (l:∀i,σ'.boxAt i=σ.boxAt i\/σ'.boxAt i=none):∃fs,Inv W0 M σ' a w { G with fs:=fs } xs/\∀i,σ'.slot i=σ.slot i->fs i=G.fs i:=by
 classical
 have n:Z83 σ σ':=by
  intro p;obtain⟨box,e,path⟩:=p;cases box with
  |true=>
   simp only[State.ct,State.content];rcases l e with h | h<;>simp[h]
  |false=>
   simp only[State.ct,State.content];rcases m e with h | h<;>simp[h]
 refine⟨λi=>if σ'.slot i=σ.slot i then G.fs i else [],⟨I.defers,by rw[d];exact I.len,λi f=> ?_,λi v k=> ?_,λi b g=> ?_,I.whoC,I.whoX,λi=> ?_,I.nodC,I.nodX,I.st,I.lt,I.ext,λi f=>I.adx i (by rw[<-d];exact f),⟨I.org.F,I.org.St,I.org.St'⟩,I.pin⟩,λi f=>by simp[f]⟩
 ·simp only[];by_cases j:σ'.slot i=σ.slot i
  ·simp only[j,XH];exact(I.slot i (by rw[<-d];exact f)).less n
  ·simp only[j,XI];rw[(m i).resolve_left j];rfl
 ·rcases l i with h | h
  ·exact I.box i v (h ▸ k)
  ·rw[h]at k;cases k
 ·simp only[]at g;split at g
  ·exact I.whoS i b g
  ·simp at g
 ·simp only[];split
  ·exact I.nodS i
  ·simp
theorem Z0i (σ:State)(box:Bool)(b i:Nat):(σ.loosen box b).slot i=TV.loosen box b (σ.slot i):=Z2r _ rfl _ _
theorem Z5h (σ:State)(b i:Nat):(σ.unpoint b).slot i=TV.unpoint b (σ.slot i):=Z2r _ rfl _ _
theorem Z1w (σ:State)(i:Nat):σ.kill.slot i=TV.kill (σ.slot i):=Z2r _ rfl _ _
theorem Z2S (σ:State)(i:Nat):σ.kill.boxAt i=Z2R (σ.boxAt i):=Z2r _ rfl _ _
theorem TV.loosen_or (box:Bool)(b:Nat)(tv:TV):TV.loosen box b tv=tv\/TV.loosen box b tv= .dead:=by
 cases tv<;>first | exact .inl rfl | (simp only[TV.loosen];split<;>simp)
theorem TV.unpoint_or (b:Nat)(tv:TV):TV.unpoint b tv=tv\/TV.unpoint b tv= .dead:=by
 cases tv<;>first | exact .inl rfl | (simp only[TV.unpoint];split<;>simp)
theorem TV.kill_or (tv:TV):TV.kill tv=tv\/TV.kill tv= .dead:=by
 cases tv<;>first | exact .inl rfl | (simp only[TV.kill];split<;>simp)
theorem Inv.loosen (I:Inv W0 M σ a w G xs)(box:Bool)(b:Nat):∃fs,Inv W0 M (σ.loosen box b) a w { G with fs:=fs } xs/\∀i,(σ.loosen box b).slot i=σ.slot i->fs i=G.fs i:=
 I.drop (by simp[State.loosen,Z0b]) (λi=>by rw[Z0i];exact TV.loosen_or _ _ _) (λi=> .inl rfl)
theorem Inv.unpoint (I:Inv W0 M σ a w G xs)(b:Nat):∃fs,Inv W0 M (σ.unpoint b) a w { G with fs:=fs } xs/\∀i,(σ.unpoint b).slot i=σ.slot i->fs i=G.fs i:=
 I.drop (by simp[State.unpoint,Z0b]) (λi=>by rw[Z5h];exact TV.unpoint_or _ _) (λi=> .inl rfl)
theorem Inv.kill (I:Inv W0 M σ a w G xs):∃fs,Inv W0 M σ.kill a w { G with fs:=fs } xs/\∀i,σ.kill.slot i=σ.slot i->fs i=G.fs i:=
 I.drop (by simp[State.kill,Z0b]) (λi=>by rw[Z1w];exact TV.kill_or _) (λi=>by rw[Z2S];cases σ.boxAt i with | none=>exact .inl rfl | some v=>simp only[Z2R];split<;>simp)
theorem Z2s (σ:State):σ.kill.noN:=by
 constructor
 ·intro i;rw[Z1w];cases σ.slot i with
  |val v=>simp only[TV.kill];split<;>simp_all[TV.noN]
  |tup v ags=>simp only[TV.kill];split<;>simp_all[TV.noN]
  |eptr v t=>simp only[TV.kill];split<;>simp_all[TV.noN]
  |_=>rfl
 ·intro i v b;rw[Z2S]at b;cases d:σ.boxAt i with
  |none=>rw[d]at b;cases b
  |some u=>
   rw[d]at b;simp only[Z2R]at b;split at b
   ·cases b;assumption
   ·cases b
theorem Z01.ghost {G':Ghost}(k:G'.F=G.F)(m:G'.St=G.St)(y:∀i,G'.ad i=G.ad i)(n:G'.Al=G.Al){tv:TV}{v:Value}{fp:List Nat}(h:Z01 σ G a w tv v fp):Z01 σ G' a w tv v fp:=by
 have B:∀p,Z09 G' a w p=Z09 G a w p:=λp=>by unfold Z09;rw[y]
 have A:∀p v,Z0w σ G a w p v->Z0w σ G' a w p v:=λp v h=>h.imp id λ⟨cs,b,⟨τ,l,q,e,g,j⟩,d⟩=>⟨cs,b,⟨τ,l,q,e,by rw[B];exact g,j⟩,d⟩
 cases tv with
 |dead=>exact h
 |un=>exact h
 |nil=>exact h
 |val u=>simp only[Z01]at h ⊢;rw[k,m,n];exact h
 |tup u ags=>simp only[Z01]at h ⊢;rw[k,m,n];exact h
 |eptr u t=>simp only[Z01]at h ⊢;rw[k,m,n];exact h
 |sclos f H u=>simp only[Z01]at h ⊢;rw[k,m,n];exact h
 |sptr r E p=>simp only[Z01]at h ⊢;rw[k,m];exact h
 |ptr p=>exact⟨h.1,h.2.1,h.2.2.1,A _ _ h.2.2.2⟩
 |eref p=>exact⟨h.1,A _ _ h.2⟩
 |tref t ags=>exact⟨h.1,λτ C=>⟨by rw[B];exact(h.2 τ C).1,(h.2 τ C).2⟩⟩
 |clos f D=>
  obtain⟨e,vs,g,j,d⟩:=h;exact⟨e,vs,g,j,λi z=>⟨(d i z).1,(d i z).2.1,A _ _ (d i z).2.2⟩⟩
 |ref p ag=>exact⟨h.1,h.2.imp id λ⟨cs,b,⟨τ,l,q,e,g,j⟩,d⟩=>⟨cs,b,⟨τ,l,q,e,by rw[B];exact g,j⟩,d⟩⟩
end
structure Sim (G G':Ghost):Prop where
 F:G'.F=G.F
 St:G'.St=G.St
 ad:G'.ad=G.ad
 Al:G'.Al=G.Al
 bx:∀b i,G'.who b=some (.a i)↔G.who b=some (.a i)
theorem Sim.refl (G:Ghost):Sim G G:=⟨rfl,rfl,rfl,rfl,λ_ _=>Iff.rfl⟩
theorem Sim.trans {d e f:Ghost}(h:Sim d e)(k:Sim e f):Sim d f:=
 ⟨k.F.trans h.F,k.St.trans h.St,k.ad.trans h.ad,k.Al.trans h.Al,λb i=>(k.bx b i).trans (h.bx b i)⟩
theorem Sim.fs (G:Ghost)(fs:Nat->List Nat):Sim G { G with fs:=fs }:=⟨rfl,rfl,rfl,rfl,λ_ _=>Iff.rfl⟩
end Go.PI
namespace Go.PI
def TV.places:TV->List Place
 |.ref p _=>[p]
 |.ptr p=>[p]
 |.eref p=>[p]
 |.tref t _=>[⟨false,t,[]⟩]
 |.clos _ b=>b
 |_=>[]
section
variable {W0:Base}{M:Nat->Prop}{σ:State}{a:Act}{w:World}{G:Ghost}{xs:List Nat}
theorem Z01.move {σ':State}{z:Act}{G':Ghost}{tv:TV}{v:Value}{fp:List Nat}
  (H:∀p∈tv.places,σ'.ct p=none\/(σ'.ct p=σ.ct p/\Z09 G' z w p=Z09 G a w p))
  (n:G'.F=G.F) (q:G'.St=G.St) (A:G'.Al=G.Al) (h:Z01 σ G a w tv v fp) (y:∀r τ p,tv= .sptr r τ p->z.tmps.getD r undef=a.tmps.getD r undef:=by intros;rfl):Z01 σ' G' z w tv v fp:=by
 have j:∀p∈tv.places,∀v,Z0w σ G a w p v->Z0w σ' G' z w p v:=by
  intro p J v h;rcases H p J with k | ⟨d,e⟩
  ·exact .inl k
  ·rcases h with h | ⟨cs,b,⟨τ,l,B,m,g,C⟩,D⟩
   ·exact .inl (d.trans h)
   ·exact .inr ⟨cs,b,⟨τ,l,B,d.trans m,e.trans g,C⟩,D⟩
 cases tv with
 |dead=>exact h
 |un=>exact h
 |nil=>exact h
 |val u=>simp only[Z01]at h ⊢;rw[n,q,A];exact h
 |tup u ags=>simp only[Z01]at h ⊢;rw[n,q,A];exact h
 |eptr u t=>simp only[Z01]at h ⊢;rw[n,q,A];exact h
 |sclos f P u=>simp only[Z01]at h ⊢;rw[n,q,A];exact h
 |sptr r K p=>simp only[Z01]at h ⊢;rw[n,q,y r K p rfl];exact h
 |ptr p=>exact⟨h.1,h.2.1,h.2.2.1,j p (by simp[TV.places]) _ h.2.2.2⟩
 |eref p=>exact⟨h.1,j p (by simp[TV.places]) _ h.2⟩
 |tref t ags=>
  refine⟨h.1,λτ I=> ?_⟩
  rcases H ⟨false,t,[]⟩ (by simp[TV.places])with k | ⟨d,e⟩
  ·rw[k]at I;cases I
  ·rw[e];exact h.2 τ (d.symm.trans I)
 |clos f L=>
  obtain⟨d,vs,e,m,g⟩:=h;exact⟨d,vs,e,m,λi E=>⟨(g i E).1,(g i E).2.1,j _ (by simp[TV.places]) _ (g i E).2.2⟩⟩
 |ref p ag=>
  refine⟨h.1,?_⟩;rcases H p (by simp[TV.places])with k | ⟨d,e⟩
  ·exact .inl k
  ·rcases h.2 with h | ⟨cs,b,⟨τ,l,B,m,g,C⟩,D⟩
   ·exact .inl (d.trans h)
   ·exact .inr ⟨cs,b,⟨τ,l,B,d.trans m,e.trans g,C⟩,D⟩
theorem Inv.sub (I:Inv W0 M σ a w G xs){ys:List Nat}(h:∀b∈ys,b∈xs)(e:ys.Nodup):Inv W0 M σ a w G ys:=
 { I with whoX:=λb d=>I.whoX b (h b d),nodX:=e }
theorem Z1k (σ:State)(r:Nat)(path:List Step):σ.ct ⟨false,r,path⟩=match σ.slot r with | .val v=>some v.τ | .tup v _=>some v.τ | _=>none:=by
 unfold State.ct State.content;simp only[];cases σ.slot r<;>rfl
theorem Z1o (σ:State)(r:Nat)(path:List Step):σ.ct ⟨true,r,path⟩=(σ.boxAt r).map (·.τ):=rfl
theorem Z8H (σ:State)(b:Bool)(r:Nat)(p:Place):(σ.loosen b r).ct p=σ.ct p:=by
 obtain⟨d,e,path⟩:=p;cases d with
 |true=>rfl
 |false=>
  rw[Z1k,Z1k,Z0i];cases σ.slot e with
  |ref q ag=>rcases TV.loosen_or b r (.ref q ag)with h | h<;>rw[h]
  |eref q=>rcases TV.loosen_or b r (.eref q)with h | h<;>rw[h]
  |tref t ags=>rcases TV.loosen_or b r (.tref t ags)with h | h<;>rw[h]
  |_=>rfl
theorem Inv.put {fp:List Nat}(I:Inv W0 M σ a w G (fp++xs)){i:Nat}{tv:TV}{v:Value}(h:Z01 σ G a w tv v fp)(W:i<W0.np->v=W0.arg i)(P:((∀τ p,tv≠ .sptr i τ p)/\∀j τ p,σ.slot j≠ .sptr i τ p)\/v=a.tmps.getD i undef) :
  ∃G',Inv W0 M (σ.put i tv) (a.put (some i) v) w G' xs/\Sim G G':=by
 classical
 obtain⟨n,X,hfs⟩:=I.loosen false i;have B:∀j,(σ.put i tv).slot j=if i=j/\i<σ.slots.length then tv else (σ.loosen false i).slot j:=by
  intro j;unfold State.put State.slot;simp only[];rw[Z0S];simp[State.loosen,Z0b]
 have hbox:∀j,(σ.put i tv).boxAt j=σ.boxAt j:=λj=>rfl
 by_cases hi:i<σ.slots.length
 case neg=>
  refine⟨{ G with fs:=n },?_,Sim.fs _ _⟩;have e1:σ.put i tv=σ.loosen false i:=by
   unfold State.put;rw[Z6t _ _ _ (by simp[State.loosen,Z0b];omega)]
   rfl
  have e2:a.put (some i) v=a:=by
   have:a.tmps.size<=i:=by rw[I.len];omega
   simp only[Act.put];rw[Array.setIfInBounds_eq_of_size_le this]
  rw[e1,e2];exact X.sub (λb g=>Qo _ g) (Qj.1 I.nodX).2.1
 case pos=>
 have H:∀j,(a.put (some i) v).tmps.getD j undef=if i=j then v else a.tmps.getD j undef:=by
  intro j;simp only[Act.put];by_cases K:i=j
  ·subst K;simp only[XH];rw[X5,YW (by rw[I.len];exact hi)];rfl
  ·simp only[K,XI];rw[X5,YO K,<-X5]
 let G':Ghost:={ G with who:=λb=>if b∈fp then some (.s i) else G.who b,fs:=λj=>if j=i then fp else n j }
 have d:∀b k,G'.who b=some (.a k)↔G.who b=some (.a k):=by
  intro b k;show (if b∈fp then some (Who.s i) else G.who b)=some (.a k)↔_
  by_cases g:b∈fp
  ·have:=I.whoX b (Qh _ g);rw[this];simp[g]
  ·simp[g]
 have Z:G'.Al=G.Al:=by
  funext b;apply propext;show ((∀k,(if b∈fp then some (Who.s i) else G.who b)≠some (.a k))/\((if b∈fp then some (Who.s i) else G.who b)=none->G.St b))↔_
  by_cases g:b∈fp
  ·simp only[g,XH];have:=I.whoX b (Qh _ g);constructor
   ·intro _;exact⟨λk=>(by rw[this];simp),λh=>(by rw[this]at h;cases h)⟩
   ·intro _;exact⟨λk=>(by simp),λh=>(by cases h)⟩
  ·simp only[g,XI];rfl
 have C:∀p:Place,p.box=true->(σ.put i tv).ct p=σ.ct p/\Z09 G' (a.put (some i) v) w p=Z09 G a w p:=by
  rintro⟨Y,r,path⟩ d;simp only at d;subst d;exact⟨rfl,rfl⟩
 have L:∀p:Place,p.box=false->p.root≠i->(σ.put i tv).ct p=(σ.loosen false i).ct p/\Z09 G' (a.put (some i) v) w p=Z09 { G with fs:=n } a w p:=by
  rintro⟨Y,r,path⟩ d y;simp only at d y;subst d;refine⟨?_,?_⟩
  ·rw[Z1k,Z1k,B];simp[Ne.symm y]
  ·simp only[Z09];rw[H];simp[Ne.symm y]
 refine⟨G',⟨I.defers,?_,λj K=> ?_,λj u hu=> ?_,λj b g=> ?_,λj b g=> ?_,λb g=> ?_,λj=> ?_,I.nodC,(Qj.1 I.nodX).2.1,λb g=> ?_,λb z g=> ?_,I.ext,λj K=>I.adx j (by simpa[State.put,Z0E,State.loosen,Z0b]using K),⟨I.org.F,I.org.St,I.org.St'⟩,λj K=> ?_⟩,rfl,rfl,rfl,Z,d⟩
 ·simp only[Act.put,Array.size_setIfInBounds,State.put,Z0E,State.loosen,Z0b,Qy];exact I.len
 ·have hj':j<σ.slots.length:=by simpa[State.put,Z0E,State.loosen,Z0b]using K
  rw[B,H];by_cases D:i=j
  ·subst D;simp only[hi,and_self,XH];show Z01 _ G' _ _ _ _ (if i=i then fp else n i)
   simp only[XH];refine Z01.move (G:=G) (a:=a) (σ:=σ) (λp e=> ?_) rfl rfl Z h (λr τ p R=>by
    rw[H];by_cases E:i=r
    ·subst E;rcases P with m | m
     ·exact absurd R (m.1 τ p)
     ·rw[QM rfl];exact m
    ·rw[QN E])
   cases d:p.box with
   |true=>exact .inr (C p d)
   |false=>
    by_cases y:p.root=i
    ·left;obtain⟨Y,r,path⟩:=p;simp only at d y;subst d y;rw[Z1k,B];simp only[hi,and_self,XH];cases tv<;>first | rfl | (simp[TV.places]at e)
    ·have:=L p d y;obtain⟨Y,r,path⟩:=p;simp only at d y;subst d;have hle:=Z8H σ false i ⟨false,r,path⟩;exact .inr ⟨this.1.trans hle,this.2⟩
  ·simp only[D,false_and,XI];have hne:j≠i:=λh=>D h.symm
   have U:=X.slot j (by simpa[State.loosen,Z0b]using hj')
   show Z01 _ G' _ _ _ _ (if j=i then fp else n j)
   simp only[hne,XI];refine Z01.move (G:={ G with fs:=n }) (λp e=> ?_) rfl rfl Z U (λr τ p R=>by
    rw[H];by_cases E:i=r
    ·subst E;rcases P with m | m
     ·have A:=Z0i σ false i j;rw[R]at A;cases l:σ.slot j with
      |sptr r2 τ2 p2=>
       rw[l]at A;simp only[TV.loosen,TV.sptr.injEq]at A;obtain⟨rfl,rfl,rfl⟩:=A;exact absurd l (m.2 j τ p)
      |ref q ag=>rw[l]at A;rcases TV.loosen_or false i (.ref q ag)with J | J<;>rw[J]at A<;>cases A
      |eref q=>rw[l]at A;rcases TV.loosen_or false i (.eref q)with J | J<;>rw[J]at A<;>cases A
      |tref t ags=>rw[l]at A;rcases TV.loosen_or false i (.tref t ags)with J | J<;>rw[J]at A<;>cases A
      |_=>rw[l]at A;simp[TV.loosen]at A
     ·rw[QM rfl];exact m
    ·rw[QN E])
   cases d:p.box with
   |true=>exact .inr ⟨(C p d).1.trans (by obtain⟨Y,r,path⟩:=p;simp only at d;subst d;rfl),(C p d).2⟩
   |false=>
    have y:p.root≠i:=by
     intro y;rw[Z0i]at e U;cases l:σ.slot j with
     |ref q ag=>
      rw[l]at e;simp only[TV.loosen]at e;split at e
      ·simp[TV.places]at e
      ·rename_i Q;simp only[TV.places,QB]at e;subst e;exact Q (by simp[d,y])
     |tref t' ags=>
      rw[l]at e;simp only[TV.loosen]at e;split at e
      ·simp[TV.places]at e
      ·rename_i Q;simp only[TV.places,QB]at e;subst e;exact Q (by simp at y;simp[y])
     |eref q=>
      rw[l]at e;simp only[TV.loosen]at e;split at e
      ·simp[TV.places]at e
      ·rename_i Q;simp only[TV.places,QB]at e;subst e;exact Q (by simp[d,y])
     |ptr q=>
      rw[l]at e U;simp only[TV.loosen,TV.places,QB]at e;subst e;have:=U.2.1;rw[d]at this;cases this
     |clos f ps=>
      rw[l]at e U;simp only[TV.loosen,TV.places]at e;obtain⟨_,vs,_,_,J⟩:=U;obtain⟨k,hk,rfl⟩:=X2.1 e;have:=(J k hk).1;rw[d]at this;cases this
     |_=>rw[l]at e;simp[TV.loosen,TV.places]at e
    exact .inr (L p d y)
 ·obtain⟨⟨c,T,Q,y⟩,hw⟩:=I.box j u hu;refine⟨⟨c,T,Q,?_⟩,?_⟩
  ·rw[Z];exact y
  ·show (if G.ad j∈fp then some (Who.s i) else G.who (G.ad j))=_
   split
   ·rename_i m;have:=I.whoX _ (Qh _ m);rw[this]at hw;cases hw
   ·exact hw
 ·show (if b∈fp then some (Who.s i) else G.who b)=_
  change b∈(if j=i then fp else n j)at g
  by_cases V:j=i
  ·subst V;simp only[XH]at g;simp[g]
  ·simp only[V,XI]at g;have:=X.whoS j b g;split
   ·rename_i m;have h2:=I.whoX b (Qh _ m);change G.who b=_ at this;rw[h2]at this;cases this
   ·exact this
 ·show (if b∈fp then some (Who.s i) else G.who b)=_
  have:=I.whoC j b g;split
  ·rename_i m;have h2:=I.whoX b (Qh _ m);rw[h2]at this;cases this
  ·exact this
 ·show (if b∈fp then some (Who.s i) else G.who b)=_
  split
  ·rename_i m;exact absurd rfl ((Qj.1 I.nodX).2.2 b m b g)
  ·exact I.whoX b (Qo _ g)
 ·show (if j=i then fp else n j).Nodup
  split
  ·exact(Qj.1 I.nodX).1
  ·exact X.nodS j
 ·refine⟨?_,(I.st b g).2⟩;show (if b∈fp then some (Who.s i) else G.who b)=_
  split
  ·rename_i m;have:=I.whoX b (Qh _ m);rw[(I.st b g).1]at this;cases this
  ·exact(I.st b g).1
 ·change (if b∈fp then some (Who.s i) else G.who b)=some z at g
  split at g
  ·rename_i m;exact I.lt b _ (I.whoX b (Qh _ m))
  ·exact I.lt b z g
 ·rw[H];split
  ·rename_i D;subst D;exact W K
  ·exact I.pin j K
theorem Z3z (σ:State)(i j:Nat):(σ.unmir i).slot j=TV.unmir i (σ.slot j):=Z2r _ rfl _ _
theorem Z7E (i:Nat)(tv:TV):TV.unmir i tv=tv\/TV.unmir i tv= .dead:=by
 cases tv<;>first | exact .inl rfl | skip
 simp only[TV.unmir];split
 ·exact .inr rfl
 ·exact .inl rfl
theorem Z7D (i:Nat)(tv:TV)(τ:Ty)(p:List Step):TV.unmir i tv≠ .sptr i τ p:=by
 cases tv<;>simp only[TV.unmir]<;>first | (intro h;cases h;done) | skip
 rename_i r e d;split
 ·intro h;cases h
 ·rename_i b;intro h;cases h;simp at b
theorem Z01.unmired {i:Nat}{tv:TV}{v:Value}{fp:List Nat}(h:Z01 σ G a w tv v fp):Z01 (σ.unmir i) G a w tv v fp:=by
 refine Z01.move (λp _=> .inr ⟨?_,rfl⟩) rfl rfl rfl h
 obtain⟨d,r,path⟩:=p;cases d with
 |true=>rfl
 |false=>
  rw[Z1k,Z1k,Z3z];cases j:σ.slot r with
  |sptr f g e=>rcases Z7E i (.sptr f g e)with b | b<;>rw[b]
  |_=>rfl
theorem Inv.puto {fp:List Nat}(I:Inv W0 M σ a w G (fp++xs)){d:Option Nat}{tv:TV}{v:Value}(h:Z01 σ G a w tv v fp)(f:∀i,d=some i->i<W0.np->v=W0.arg i) :
  ∃G',Inv W0 M (σ.puto d tv) (a.put d v) w G' xs/\Sim G G':=by
 cases d with
 |none=>exact⟨G,I.sub (λb r=>Qo _ r) (Qj.1 I.nodX).2.1,Sim.refl _⟩
 |some i=>
  obtain⟨e,m,u⟩:=I.drop (σ':=σ.unmir i) (by simp[State.unmir,Z0b]) (λj=>by rw[Z3z];exact Z7E _ _) (λj=> .inl rfl)
  have q:Z01 (σ.unmir i) { G with fs:=e } a w (TV.unmir i tv) v fp:=by
   have g:Z01 (σ.unmir i) { G with fs:=e } a w tv v fp:=Z01.move (λp _=> .inr ⟨rfl,rfl⟩) rfl rfl rfl h.unmired
   cases tv<;>first | exact g | skip
   simp only[TV.unmir];split
   ·exact g.1
   ·exact g
  obtain⟨l,n,k⟩:=m.put (i:=i) (tv:=TV.unmir i tv) (v:=v) q (f _ rfl) (.inl ⟨λτ p=>Z7D _ _ _ _,λj τ p=>by rw[Z3z];exact Z7D _ _ _ _⟩)
  exact⟨l,n,(Sim.fs G e).trans k⟩
end
section
variable {w:World}{F:Nat->Nat}{St Al:Nat->Prop}
theorem Rp.flatLens:{path:List Step}->{τ:Ty}->{tg:List Tag}->{cs f:List Value}->{x:El τ}->{fp:List Nat}->{base d:Option (Nat×Nat)}->{u:TVal} ->
  Z08 path=true->Rp w F St Al τ tg cs x fp->Z00 w τ cs base path=some (f,d)->Z04 τ x tg path=some u ->
  ∃E fi H,fp=E++fi++H/\Rp w F St Al u.τ u.tg (f.take (size u.τ)) u.x fi/\d=base.map (λy=>(y.1,y.2+Z0g τ path))/\f.take (size u.τ)=(cs.drop (Z0g τ path)).take (size u.τ) /\
   ∀(v:TVal) (i:List Value) (fv:List Nat) (D:El τ) (k:List Tag),Z0I τ x tg path v=some (D,k)->v.τ=u.τ->Rp w F St Al v.τ v.tg i v.x fv ->
    Rp w F St Al τ k (Z0c cs (Z0g τ path) i) D (E++fv++H)
 | [],τ,tg,cs,f,x,fp,base,d,u,r,h,e,m=>by
  simp only[Z00,Q9,Qs]at e;obtain⟨rfl,rfl⟩:=e;have hu:u=⟨τ,false,x,tg⟩:=by cases τ<;>(simp only[Z04,Q9]at m;exact m.symm)
  subst hu;have W:Z0g τ []=0:=by cases τ<;>rfl
  have J:cs.take (size τ)=cs:=by rw[<-h.len.1];simp
  refine⟨[],fp,[],by simp,by rw[J];exact h,?_,by rw[W];simp,?_⟩
  ·rw[W];cases base<;>simp
  ·intro v i fv D k j C g;obtain⟨vτ,vag,vx,aa⟩:=v;simp only at C g;subst C;have Y:vx=D/\aa=k:=by
    cases vτ<;>(simp only[Z0I,Yr,Q9,Qs]at j;first | exact j | exact⟨rfl,j.2⟩)
   obtain⟨rfl,rfl⟩:=Y;rw[W,Z2X (by rw[g.len.1,h.len.1])]
   simpa using g
 |.fst::p,.pair a b,tg,cs,f,x,fp,base,d,u,r,h,e,m=>by
  obtain⟨t1,t2,c1,c2,E,H,rfl,rfl,rfl,I,X⟩:=h;have n:=I.len;have A:Z00 w a c1 base p=some (f,d):=by
   simp only[Z00]at e;rw[<-n.1]at e;simpa using e
  have q:Z04 a x.1 t1 p=some u:=by
   simp only[Z04]at m;rw[<-n.2]at m;simpa using m
  have J:=Z1u (path:=p) r q;obtain⟨T,V,U,K,L,P,Q,R⟩:=Rp.flatLens (path:=p) r I A q;refine⟨T,V,U++H,by rw[K];simp,L,P,?_,?_⟩
  ·rw[Q,show Z0g (a.pair b) (.fst::p)=Z0g a p from rfl]
   rw[YX (by omega),XN (by simp;omega)]
  ·intro v i fv D k j C g;simp only[Z0I]at j;rw[<-n.2]at j;simp only[YD,YM,Qm]at j;obtain⟨⟨xa,Z⟩,B,l⟩:=j;simp only[Qs]at l;obtain⟨rfl,rfl⟩:=l;have:=R v i fv xa Z B C g;rw[show Z0g (a.pair b) (.fst::p)=Z0g a p from rfl,Z3g (by rw[g.len.1,C,n.1];omega)]
   have:=Rp.pair_mk this X;simpa using this
 |.snd::p,.pair a b,tg,cs,f,x,fp,base,d,u,r,h,e,m=>by
  obtain⟨t1,t2,c1,c2,E,H,rfl,rfl,rfl,I,X⟩:=h;have n:=I.len;have A:Z00 w b c2 (base.map λx=>(x.1,x.2+size a)) p=some (f,d):=by
   simp only[Z00]at e;rw[<-n.1]at e ⊢;simpa using e
  have q:Z04 b x.2 t2 p=some u:=by
   simp only[Z04]at m;rw[<-n.2]at m;simpa using m
  obtain⟨T,V,U,K,L,P,Q,R⟩:=Rp.flatLens (path:=p) r X A q;refine⟨E++T,V,U,by rw[K];simp,L,?_,?_,?_⟩
  ·rw[P];cases base with
   |none=>rfl
   |some z=>simp[Z0g,Nat.add_assoc]
  ·rw[Q,show Z0g (a.pair b) (.snd::p)=size a+Z0g b p from rfl,<-n.1,List.drop_length_add_append]
  ·intro v i fv D k j C g;simp only[Z0I]at j;rw[<-n.2]at j;simp only[YD,YM,Qm]at j;obtain⟨⟨xa,Z⟩,B,l⟩:=j;simp only[Qs]at l;obtain⟨rfl,rfl⟩:=l;have:=R v i fv xa Z B C g;rw[show Z0g (a.pair b) (.snd::p)=size a+Z0g b p from rfl,<-n.1,Z2M]
   have:=Rp.pair_mk I this;simpa using this
 |.idx _::_,_,_,_,_,_,_,_,_,_,r,_,_,_=>by simp[Z08]at r
 |.fst::_,.int _,_,_,_,_,_,_,_,_,_,_,e,_=>by simp[Z00]at e
 |.fst::_,.bool,_,_,_,_,_,_,_,_,_,_,e,_=>by simp[Z00]at e
 |.fst::_,.str,_,_,_,_,_,_,_,_,_,_,e,_=>by simp[Z00]at e
 |.fst::_,.unit,_,_,_,_,_,_,_,_,_,_,e,_=>by simp[Z00]at e
 |.fst::_,.slice _,_,_,_,_,_,_,_,_,_,_,e,_=>by simp[Z00]at e
 |.snd::_,.int _,_,_,_,_,_,_,_,_,_,_,e,_=>by simp[Z00]at e
 |.snd::_,.bool,_,_,_,_,_,_,_,_,_,_,e,_=>by simp[Z00]at e
 |.snd::_,.str,_,_,_,_,_,_,_,_,_,_,e,_=>by simp[Z00]at e
 |.snd::_,.unit,_,_,_,_,_,_,_,_,_,_,e,_=>by simp[Z00]at e
 |.snd::_,.slice _,_,_,_,_,_,_,_,_,_,_,e,_=>by simp[Z00]at e
end
end Go.PI
namespace Go.PI
section
variable {W0:Base}{M:Nat->Prop}{σ:State}{a:Act}{w:World}{G:Ghost}{xs:List Nat}
def Ghost.fpOf (G:Ghost)(p:Place):List Nat:=match p.box with | true=>G.fb p.root | false=>G.fs p.root
theorem Z0O (w:World)(τ:Ty)(cs:List Value)(base:Option (Nat×Nat)):Z00 w τ cs base []=some (cs,base):=by cases τ<;>rfl
theorem Z37 {cs:List Value}{o n:Nat}(h:o+n<=cs.length):Z0c cs o ((cs.drop o).take n)=cs:=by
 unfold Z0c;have:((cs.drop o).take n).length=n:=by simp;omega
 rw[this,Qb,<-X9,XB,XB]
theorem Z0M {r:Nat}{path:List Step}{c c':TVal}(d:σ.content ⟨false,r,path⟩=some c)(j:Nat) :
  (σ.setContent ⟨false,r,path⟩ c').slot j=if r=j/\r<σ.slots.length then (match σ.slot r with | .tup _ ags=> .tup c' ags | _=> .val c') else σ.slot j:=by
 simp only[State.content]at d;cases b:σ.slot r with
 |val v=>
  have:σ.setContent ⟨false,r,path⟩ c'={ σ with slots:=Z0G σ.slots r (.val c') }:=by simp only[State.setContent,b]
  rw[this];show Z0u TV.dead (Z0G σ.slots r (.val c')) j=_
  rw[Z0S];rfl
 |tup v ags=>
  have:σ.setContent ⟨false,r,path⟩ c'={ σ with slots:=Z0G σ.slots r (.tup c' ags) }:=by simp only[State.setContent,b]
  rw[this];show Z0u TV.dead (Z0G σ.slots r (.tup c' ags)) j=_
  rw[Z0S];rfl
 |_=>rw[b]at d;cases d
theorem Z2h (p:Place)(c':TVal):(σ.setContent p c').slots.length=σ.slots.length:=by
 obtain⟨b,r,path⟩:=p;cases b with
 |true=>rfl
 |false=>simp only[State.setContent];split<;>simp[Z0E]
theorem Inv.recontent (I:Inv W0 M σ a w G xs){p:Place}{c c':TVal}(g:σ.content p=some c)(Z:c'.τ=c.τ)(hag:c'.ag=c.ag){l:List Value}{b:Option (Nat×Nat)}{f' fi:List Nat}
  (X:Z09 G a w p=some (l,b)) (hR:Rp w G.F G.St G.Al c'.τ c'.tg l c'.x f') (H:(G.fpOf p).Perm (f'++fi)) :
  ∃G',Inv W0 M (σ.setContent p c') a w G' (fi++xs)/\Sim G G':=by
 classical
 obtain⟨e,r,path⟩:=p;have i:∀x∈fi,x∈G.fpOf ⟨e,r,path⟩:=λx d=>H.symm.subset (Qo _ d)
 have Q:∀x∈f',x∈G.fpOf ⟨e,r,path⟩:=λx d=>H.symm.subset (Qh _ d)
 have f:∀x∈G.fpOf ⟨e,r,path⟩,G.who x=some (if e then .c r else .s r):=by
  intro x d;cases e
  ·exact I.whoS r x d
  ·exact I.whoC r x d
 have D:(f'++fi).Nodup:=by
  refine H.nodup_iff.1 ?_;cases e
  ·exact I.nodS r
  ·exact I.nodC r
 have E:∀x∈fi,x ∉ f':=λx d hx'=>(Qj.1 D).2.2 x hx' x d rfl
 let G':Ghost:=⟨G.F,G.St,(λx=>if x∈fi then some .x else G.who x),(λj=>if e=false/\j=r then f' else G.fs j),(λj=>if e=true/\j=r then f' else G.fb j),G.ad⟩
 have hbx:∀x k,G'.who x=some (.a k)↔G.who x=some (.a k):=by
  intro x k;show (if x∈fi then some Who.x else G.who x)=some (.a k)↔_
  by_cases d:x∈fi
  ·have:=f x (i x d);rw[this];cases e<;>simp[d]
  ·simp[d]
 have P:G'.Al=G.Al:=by
  funext x;apply propext;show ((∀k,(if x∈fi then some Who.x else G.who x)≠some (.a k))/\((if x∈fi then some Who.x else G.who x)=none->G.St x))↔_
  by_cases d:x∈fi
  ·simp only[d,XH];have:=f x (i x d);constructor
   ·intro _;exact⟨λk=>(by rw[this];cases e<;>simp),λh=>(by rw[this]at h;cases h)⟩
   ·intro _;exact⟨λk=>(by simp),λh=>(by cases h)⟩
  ·simp only[d,XI];rfl
 have hct:∀q,(σ.setContent ⟨e,r,path⟩ c').ct q=σ.ct q/\Z09 G' a w q=Z09 G a w q:=by
  rintro⟨bq,rq,pq⟩;refine⟨?_,by cases bq<;>rfl⟩
  cases e with
  |true=>
   simp only[State.content]at g;cases bq with
   |true=>
    rw[Z1o,Z1o];simp only[State.setContent,State.boxAt]at *;rw[Z0S];split
    ·rename_i h;obtain⟨rfl,_⟩:=h;rw[g];simp[Z]
    ·rfl
   |false=>rfl
  |false=>
   cases bq with
   |true=>
    simp only[State.setContent];split<;>rfl
   |false=>
    rw[Z1k,Z1k,Z0M g];by_cases h3:r=rq/\r<σ.slots.length
    ·obtain⟨rfl,h4⟩:=h3;simp only[h4,and_self,XH];simp only[State.content]at g;cases m:σ.slot r with
     |val v=>rw[m]at g;cases g;simp only[Z]
     |tup v ags=>rw[m]at g;cases g;simp only[Z]
     |_=>rw[m]at g;cases g
    ·simp only[h3,XI]
 refine⟨G',⟨I.defers,?_,λj R=> ?_,λj u L=> ?_,λj x d=> ?_,λj x d=> ?_,λx d=> ?_,λj=> ?_,λj=> ?_,?_,λx d=> ?_,λx z d=> ?_,I.ext,λj R=>I.adx j (by rw[Z2h]at R;exact R),⟨I.org.F,I.org.St,I.org.St'⟩,I.pin⟩,rfl,rfl,rfl,P,hbx⟩
 ·rw[I.len,Z2h]
 ·have J:j<σ.slots.length:=by rw[Z2h]at R;exact R
  by_cases K:e=false/\j=r
  ·obtain⟨rfl,rfl⟩:=K;show Z01 _ G' a w _ _ (if false=false/\j=j then f' else G.fs j)
   simp only[and_self,XH];have Y:=I.slot j J;have n:=Z0M (c':=c') g j;simp only[State.content]at g;simp only[Z09,Q9,Qs]at X;obtain⟨rfl,rfl⟩:=X;simp only[J,and_self,XH]at n;rw[n];cases m:σ.slot j with
   |val v=>
    rw[m]at Y g;cases g;simp only[];refine⟨by rw[hag];exact Y.1,?_⟩
    rw[P];exact hR
   |tup v ags=>
    rw[m]at Y g;cases g;simp only[];refine⟨by rw[Z];exact Y.1,?_⟩
    rw[P];exact hR
   |_=>rw[m]at g;cases g
  ·show Z01 _ G' a w _ _ (if e=false/\j=r then f' else G.fs j)
   simp only[K,XI];have n:(σ.setContent ⟨e,r,path⟩ c').slot j=σ.slot j:=by
    cases e with
    |true=>rfl
    |false=>
     have U:r≠j:=λh=>K ⟨rfl,h.symm⟩
     rw[Z0M g];simp[U]
   rw[n];exact Z01.move (λq _=> .inr (hct q)) rfl rfl P (I.slot j J)
 ·have n:∀j,(σ.setContent ⟨e,r,path⟩ c').boxAt j=if e=true/\r=j/\r<σ.boxes.length then some c' else σ.boxAt j:=by
   intro j;cases e with
   |true=>simp only[State.setContent,State.boxAt];rw[Z0S];simp
   |false=>simp only[State.setContent];split<;>simp[State.boxAt]
  rw[n]at L;split at L
  ·rename_i h;obtain⟨rfl,rfl,_⟩:=h;cases L;simp only[State.content]at g;obtain⟨⟨cc,T,C,V⟩,W⟩:=I.box r c g;simp only[Z09,C,Q9,Qs]at X;obtain⟨rfl,rfl⟩:=X;refine⟨⟨cc,T,C,?_⟩,?_⟩
   ·rw[P];show Rp w G.F G.St G.Al _ _ _ _ (if true=true/\r=r then f' else G.fb r)
    simp only[and_self,XH];exact hR
   ·show (if G.ad r∈fi then some Who.x else G.who (G.ad r))=_
    split
    ·rename_i A;have:=f _ (i _ A);rw[W]at this;simp at this
    ·exact W
  ·obtain⟨⟨cc,T,C,V⟩,W⟩:=I.box j u L;refine⟨⟨cc,T,C,?_⟩,?_⟩
   ·rw[P];show Rp w G.F G.St G.Al _ _ _ _ (if e=true/\j=r then f' else G.fb j)
    split
    ·rename_i B h2;obtain⟨rfl,rfl⟩:=h2;exfalso;refine B ⟨rfl,rfl,?_⟩;rcases Yi j σ.boxes.length with h | h
     ·exact h
     ·unfold State.boxAt at L;rw[Z2e _ _ h]at L;cases L
    ·exact V
   ·show (if G.ad j∈fi then some Who.x else G.who (G.ad j))=_
    split
    ·rename_i A;have:=f _ (i _ A);rw[W]at this;cases e<;>simp at this
    ·exact W
 ·change x∈(if e=false/\j=r then f' else G.fs j)at d
  show (if x∈fi then some Who.x else G.who x)=_
  split at d
  ·rename_i h;obtain⟨rfl,rfl⟩:=h;rw[QN (λh=>E x h d)]
   have:=f x (Q x d);simpa using this
  ·rename_i h;have B:=I.whoS j x d;rw[QN (λA=> ?_)]
   ·exact B
   ·have:=f x (i x A);rw[B]at this;cases e
    ·simp only[Xj,XI,Q9,Who.s.injEq]at this;exact h ⟨rfl,this⟩
    ·simp at this
 ·change x∈(if e=true/\j=r then f' else G.fb j)at d
  show (if x∈fi then some Who.x else G.who x)=_
  split at d
  ·rename_i h;obtain⟨rfl,rfl⟩:=h;rw[QN (λh=>E x h d)]
   have:=f x (Q x d);simpa using this
  ·rename_i h;have B:=I.whoC j x d;rw[QN (λA=> ?_)]
   ·exact B
   ·have:=f x (i x A);rw[B]at this;cases e
    ·simp at this
    ·simp only[XH,Q9,Who.c.injEq]at this;exact h ⟨rfl,this⟩
 ·show (if x∈fi then some Who.x else G.who x)=_
  split
  ·rfl
  ·rename_i h;exact I.whoX x ((Qr.1 d).resolve_left h)
 ·show (if e=false/\j=r then f' else G.fs j).Nodup
  split
  ·exact(Qj.1 D).1
  ·exact I.nodS j
 ·show (if e=true/\j=r then f' else G.fb j).Nodup
  split
  ·exact(Qj.1 D).1
  ·exact I.nodC j
 ·refine Qj.2 ⟨(Qj.1 D).2.1,I.nodX,λx d y hy he=> ?_⟩
  subst he;have B:=f x (i x d);rw[I.whoX x hy]at B;cases e<;>simp at B
 ·refine⟨?_,(I.st x d).2⟩;show (if x∈fi then some Who.x else G.who x)=_
  split
  ·rename_i A;have:=f x (i x A);rw[(I.st x d).1]at this;cases this
  ·exact(I.st x d).1
 ·change (if x∈fi then some Who.x else G.who x)=some z at d
  split at d
  ·rename_i A;exact I.lt x _ (f x (i x A))
  ·exact I.lt x z d
theorem Z0v (I:Inv W0 M σ a w G xs)(o:Operand)(h:∀v ags,σ.peek o≠ .tup v ags):Z01 σ G a w (σ.peek o) (a.eval o) []:=by
 cases o with
 |tmp t=>
  by_cases ht:t<σ.slots.length
  ·have e:=I.slot t ht;simp only[State.peek]at h ⊢;cases d:σ.slot t with
   |val v=>
    rw[d]at e;simp only[];by_cases g:v.anyOwn
    ·simp only[g,XH];refine⟨rfl,.inr ⟨Z02 (a.tmps.getD t undef),none,⟨v.τ,Z02 (a.tmps.getD t undef),none,?_,rfl,Z0O _ _ _ _⟩,rfl,e.1⟩⟩;rw[Z1k,d]
    ·simp only[g,XI];have:G.fs t=[]:=e.2.fp_nil λt ht=>by
      unfold TVal.anyOwn at g;cases m:t.own with
      |false=>rfl
      |true=>exact absurd (Yn.2 ⟨t,ht,m⟩) g
     rw[this]at e;exact e
   |tup v ags=>rw[d]at h;exact absurd rfl (h v ags)
   |dead=>simp only[Z01]
   |un=>rw[d]at e;exact⟨e.1,rfl⟩
   |nil=>rw[d]at e;exact⟨e.1,rfl⟩
   |ref p ag=>rw[d]at e;exact⟨rfl,e.2⟩
   |ptr p=>rw[d]at e;exact⟨rfl,e.2⟩
   |eptr u t=>rw[d]at e;exact⟨rfl,e.2⟩
   |eref p=>rw[d]at e;exact⟨rfl,e.2⟩
   |tref t' ags=>rw[d]at e;exact⟨rfl,e.2⟩
   |sptr r y p=>rw[d]at e;exact⟨rfl,e.2⟩
   |clos f q=>rw[d]at e;exact⟨rfl,e.2⟩
   |sclos f z u=>rw[d]at e;exact⟨rfl,e.2⟩
  ·have:σ.slot t= .dead:=Z2e _ _ (Nat.le_of_not_lt ht);simp only[State.peek,this,Z01]
 |const v=>
  cases v with
  |int k n=>exact⟨rfl,rfl,rfl,rfl⟩
  |bool b=>exact⟨rfl,rfl,rfl,rfl⟩
  |string s=>exact⟨rfl,rfl,rfl,rfl⟩
  |slice j len cap=>
   cases j with
   |none=>
    cases len with
    |zero=>cases cap with
     |zero=>exact⟨rfl,rfl⟩
     |succ n=>simp[State.peek,Z01]
    |succ n=>simp[State.peek,Z01]
   |some x=>simp[State.peek,Z01]
  |_=>simp[State.peek,Z01]
 |func f=>exact⟨rfl,#[],rfl,rfl,λi l=>by simp at l⟩
 |_=>simp[State.peek,Z01]
theorem Z0B {p:Place}{u:TVal}(h:σ.getAt p=some u):∃c,σ.content p=some c/\Z04 c.τ c.x c.tg p.path=some u:=by
 unfold State.getAt at h;obtain⟨c,b,d⟩:=Yj.1 h;exact⟨c,b,d⟩
theorem Z2t (I:Inv W0 M σ a w G xs){p:Place}{u:TVal}{cs:List Value}{base:Option (Nat×Nat)}(h:σ.getAt p=some u)(n:Z0A σ G a w p cs base) :
  ∃fp,Rp w G.F G.St G.Al u.τ u.tg cs u.x fp:=by
 obtain⟨c,i,k⟩:=Z0B h;obtain⟨τ,l,b,d,q,m⟩:=n;obtain⟨l',r,fp,e,g,v⟩:=Z0F I i;rw[q]at e;cases e;have:τ=c.τ:=by rw[State.ct,i]at d;simpa using d.symm
 subst this;obtain⟨f,j,_⟩:=g.get m k;exact⟨f,j⟩
theorem TVal.alias_tg (u:TVal):u.alias.tg=u.tg.map Tag.alias:=rfl
theorem Z1p (I:Inv W0 M σ a w G xs){o:Operand}{v:TVal}(h:σ.look o=some v) :
  Rp w G.F G.St G.Al v.τ v.tg (Z02 (a.eval o)) v.x []/\Z0f v.ag (a.eval o):=by
 unfold State.look at h;have b:=Z0v I o;split at h
 ·rename_i u j;cases h;rw[j]at b;have:=b (by simp)
  exact⟨this.2,this.1⟩
 ·rename_i p ag j;rw[j]at b;obtain⟨_,d⟩:=b (by simp)
  obtain⟨u,k,rfl⟩:=Qm.1 h;rcases d with d | ⟨cs,base,f,e,i⟩
  ·obtain⟨c,l,_⟩:=Z0B k;rw[State.ct,l]at d;cases d
  ·obtain⟨fp,g⟩:=Z2t I k f;rw[e];exact⟨g.alias (Ghost.St_Al I),i⟩
 ·cases h
theorem Z0Y (I:Inv W0 M σ a w G xs){o:Operand}{τ:Ty}{v:TVal}{σ':State}(h:σ.take o τ=some (v,σ')) :
  ∃fp G',Inv W0 M σ' a w G' (fp++xs)/\Sim G G'/\v.τ=τ /\
   Rp w G'.F G'.St G'.Al v.τ v.tg (Z02 (a.eval o)) v.x fp/\Z0f v.ag (a.eval o):=by
 unfold State.take at h;have n:=Z0v I o;split at h
 ·rename_i D;rw[D]at n;obtain⟨V,_⟩:=n (by simp)
  split at h
  ·cases h;refine⟨[],G,I,Sim.refl _,rfl,?_,?_⟩
   ·rw[V];exact⟨.O,none,0,rfl,rfl,Qq _,.inl ⟨rfl,rfl,rfl,rfl,rfl⟩⟩
   ·rw[V];rfl
  ·cases h
 ·rename_i u D;rw[D]at n;have:=n (by simp)
  split at h
  ·cases h;rename_i J;exact⟨[],G,I,Sim.refl _,J,this.2,this.1⟩
  ·cases h
 ·rename_i p ag D;rw[D]at n;obtain⟨_,H⟩:=n (by simp)
  split at h
  ·rename_i u L;split at h
   ·rename_i J;rcases H with H | ⟨cs,base,y,q,C⟩
    ·obtain⟨c,m,_⟩:=Z0B L;rw[State.ct,m]at H;cases H
    split at h
    ·rename_i d;simp only[Q6]at d;obtain⟨σ2,e,he⟩:=Qm.1 h;cases he;obtain⟨c,m,k⟩:=Z0B L;unfold State.setAt at e;rw[m]at e;simp only[Option.bind_some,Qm]at e;obtain⟨⟨W,E⟩,P,rfl⟩:=e;obtain⟨τc,l,b,r,B,U⟩:=y;obtain⟨l',b',fpc,z,g,hw⟩:=Z0F I m;rw[B]at z;cases z;have:τc=c.τ:=by rw[State.ct,m]at r;simpa using r.symm
     subst this;obtain⟨f1,fi,f2,Y,R,e3,Z,e5⟩:=Rp.flatLens d.2 g U k;obtain⟨fg,A,_⟩:=g.get U k;have i:cs.take (size u.τ)=cs:=by rw[<-A.len.1];simp
     have j:=e5 u.alias (cs.take (size u.τ)) [] W E P rfl (by rw[i];exact A.alias (Ghost.St_Al I))
     have Q:=Z1u d.2 k;rw[Z,Z37 (by rw[g.len.1];exact Q)]at j
     have K:G.fpOf p=f1++fi++f2:=by
      rw[<-Y];rcases hw with⟨T,_,rfl,_⟩ | ⟨T,_,rfl,_⟩<;>simp[Ghost.fpOf,T]
     obtain⟨G',X,f⟩:=I.recontent (c':=⟨c.τ,c.ag,W,E⟩) m rfl rfl B j (fi:=fi) (by
      rw[K];simp only[Qe];rw[Qb,Qb];exact XP _ XQ)
     refine⟨fi,G',X,f,J,?_,C⟩;rw[f.F,f.St,f.Al,q];rw[i]at R;exact R
    ·cases h;obtain⟨fp,g⟩:=Z2t I L y;refine⟨[],G,I,Sim.refl _,J,?_,C⟩;rw[q];exact g.alias (Ghost.St_Al I)
   ·cases h
  ·cases h
 ·cases h
end
end Go.PI
namespace Go.PI
noncomputable section
def zeroCells:Ty->List Value
 |.int k=>[.int k 0]
 |.bool=>[.bool false]
 |.str=>[.string ⟨#[]⟩]
 |.unit=>[]
 |.slice _=>[.slice none 0 0]
 |.pair a b=>zeroCells a++zeroCells b
structure FieldF (P:Program)(tys:List (TypeId×Ty×List TypeId))(τ:Ty)(l:List TypeId)(fs:Array Field)(i:Nat):Prop where
 out : ∃f τf lf, fs[i]? = some f ∧ f.type = l.getD i 0 ∧ f.offset = Z0g τ (Z0a l.length i) ∧ Z0d τ (Z0a l.length i) = some τf ∧ Z0o tys f.type = some (τf, lf) ∧ size τf ≠ 0 ∧ f.name ≠ "_"
def Z7o:Ty->Bool
 |.int _=>true
 |.bool=>true
 |.str=>true
 |_=>false
structure TyF (P:Program)(tys:List (TypeId×Ty×List TypeId))(t:TypeId)(τ:Ty)(l:List TypeId):Prop where
 info:∃i z,P.info? t=some i/\i.size=size τ/\i.bytes<=65536/\i.bytes≠0/\i.zero=some z/\z.cells.toList=zeroCells τ/\Z0f (!l.isEmpty) z
 und:l=[]->((∀k,τ= .int k->P.underlying t=some (.int k))/\(τ= .bool->P.underlying t=some .bool)/\(τ= .str->P.underlying t=some .string) /\
  (∀e,τ= .slice e->∃et,P.underlying t=some (.slice et)/\tyOf tys et=some e/\(Z7o e=true->agOf tys et=false))/\(τ≠ .unit)/\(∀a b,τ≠ .pair a b))
 str:l≠[]->∃fs,P.underlying t=some (.struct fs)/\fs.size=l.length/\(∀i,i<l.length->FieldF P tys τ l fs i)/\P.stoodInHeld t=false
def Z0e (P:Program)(b:List (TypeId×Ty×List TypeId)):Prop:=∀t τ l,Z0o b t=some (τ,l)->TyF P b t τ l
def Z38:Ty->List Value->Bool
 |.int k,cs=>match cs with | [.int d n]=>decide (k=d)&&decide (n=0) | _=>false
 |.bool,cs=>match cs with | [.bool b]=> !b | _=>false
 |.str,cs=>match cs with | [.string s]=>decide (s.size=0) | _=>false
 |.unit,cs=>cs.isEmpty
 |.slice _,cs=>match cs with | [.slice none 0 0]=>true | _=>false
 |.pair a b,cs=>Z38 a (cs.take (size a))&&Z38 b (cs.drop (size a))
theorem Z5L:{τ:Ty}->{cs:List Value}->Z38 τ cs=true->cs=zeroCells τ
 |.int k,cs,h=>by
  simp only[Z38]at h;split at h
  ·simp only[Q6,Ql]at h;obtain⟨rfl,rfl⟩:=h;rfl
  ·cases h
 |.bool,cs,h=>by
  simp only[Z38]at h;split at h
  ·rename_i b;cases b
   ·rfl
   ·cases h
  ·cases h
 |.str,cs,h=>by
  simp only[Z38]at h;split at h
  ·rename_i s;simp only[Ql]at h;obtain⟨⟨l⟩⟩:=s;have:l=[]:=Qv.1 h;subst this;rfl
  ·cases h
 |.unit,cs,h=>by simp only[Z38,YU]at h;exact h
 |.slice _,cs,h=>by
  simp only[Z38]at h;split at h
  ·rfl
  ·cases h
 |.pair a b,cs,h=>by
  simp only[Z38,Q6]at h;have d:=Z5L h.1;have e:=Z5L h.2;rw[zeroCells,<-d,<-e,XB]
def ZaS:Value->Bool:=one
def Z9C:Value->Bool | .agg _=>true | _=>false
def Z8I (P:Program)(b:List (TypeId×Ty×List TypeId))(τ:Ty)(l:List TypeId)(e:Array Field)(i:Nat):Bool:=
 match e[i]?,Z0d τ (Z0a l.length i)with
 |some f, some d => decide (f.type = l.getD i 0) && decide (f.offset = Z0g τ (Z0a l.length i)) && decide (tyOf b f.type = some d) && decide (size d ≠ 0) && decide (f.name ≠ "_")
 |_,_=>false
def tyB (P:Program)(b:List (TypeId×Ty×List TypeId))(t:TypeId)(τ:Ty)(l:List TypeId):Bool:=
 (match P.info? t with
  |some i=>decide (i.size=size τ)&&decide (i.bytes<=65536)&&decide (i.bytes≠0)&&(match i.zero with | some z=>Z38 τ z.cells.toList&&(if l.isEmpty then one z else Z9C z) | none=>false)
  |none=>false) &&
 (match l with
  | []=>(match τ,P.underlying t with
   |.int k,some (.int f)=>decide (k=f)
   |.bool,some .bool=>true
   |.str,some .string=>true
   |.slice e,some (.slice et)=>decide (tyOf b et=some e)&&(!Z7o e|| !agOf b et)
   |_,_=>false)
  |_=>(match P.underlying t with
   |some (.struct d)=>decide (d.size=l.length)&&(List.range l.length).all (Z8I P b τ l d)&& !P.stoodInHeld t
   |_=>false))
def Zal (P:Program)(b:List (TypeId×Ty×List TypeId)):Bool:=b.all λx=>tyB P b x.1 x.2.1 x.2.2
theorem Z6y {α:Type}:{l:List (Nat×α)}->{n:Nat}->{a:α}->Z0o l n=some a->(n,a)∈l
 |(m,b)::l,n,a,h=>by
  simp only[Z0o]at h;split at h
  ·rename_i d;simp at d;subst d;cases h;simp
  ·exact Qa _ (Z6y h)
theorem ZaC {P:Program}{m:List (TypeId×Ty×List TypeId)}(h:Zal P m=true):Z0e P m:=by
 intro t τ l F;have H:=Z6y F;have w:=QD.1 h _ H;simp only[tyB,Q6]at w;obtain⟨p,b⟩:=w;refine⟨?_,?_,?_⟩
 ·split at p
  ·rename_i i v;simp only[Q6,Ql]at p;obtain⟨⟨⟨A,B⟩,u⟩,d⟩:=p;split at d
   ·rename_i z J;simp only[Q6]at d;refine⟨i,z,v,A,B,u,J,Z5L d.1,?_⟩;cases q:l.isEmpty with
    |true=>rw[q]at d;simp only[XH]at d;exact d.2
    |false=>
     rw[q]at d;simp only[Xj,XI]at d;cases z<;>simp_all[Z9C,Z0f]
   ·cases d
  ·cases p
 ·rintro rfl;simp only[]at b;split at b
  ·rename_i k Q g;simp only[Ql]at b;subst b;exact⟨λk h=>by cases h;exact g,by simp,by simp,by simp,by simp,by simp⟩
  ·rename_i g;exact⟨by simp,λ_=>g,by simp,by simp,by simp,by simp⟩
  ·rename_i g;exact⟨by simp,by simp,λ_=>g,by simp,by simp,by simp⟩
  ·rename_i e et g;simp only[Q6,Ql,Xq,QF]at b;refine⟨by simp,by simp,by simp,λM h=> ?_,by simp,by simp⟩
   cases h;exact⟨et,g,b.1,λI=>b.2.resolve_left (by rw[I];simp)⟩
  ·cases b
 ·intro q;cases l with
  |nil=>exact absurd rfl q
  |cons a l=>
   simp only[]at b;split at b
   ·rename_i y g;simp only[Q6,Ql,QD,List.mem_range,QF]at b;refine⟨y,g,b.1.1,λi v=> ?_,b.2⟩
    have:=b.1.2 i v;unfold Z8I at this;split at this
    ·rename_i f L G K;simp only[Q6,Ql]at this;obtain⟨⟨⟨⟨C,D⟩,n⟩,E⟩,r⟩:=this;unfold tyOf at n;cases j:Z0o m f.type with
     |none=>rw[j]at n;cases n
     |some x=>
      rw[j]at n;simp only[XU,Q9]at n;exact⟨⟨f,L,x.2,G,C,D,K,by rw[<-n];exact j,E,r⟩⟩
    ·cases this
   ·cases b
theorem Z2Y {w:World}{F:Nat->Nat}{St Al:Nat->Prop}:(τ:Ty)->Rp w F St Al τ (List.replicate (Z06 τ) .O) (zeroCells τ) (zero τ) []
 |.int _=>⟨rfl,rfl,rfl⟩
 |.bool=>⟨rfl,rfl,rfl⟩
 |.str=>⟨rfl,rfl,rfl⟩
 |.unit=>⟨rfl,rfl,rfl⟩
 |.slice e=>⟨.O,none,0,rfl,rfl,Qq _,.inl ⟨rfl,rfl,rfl,rfl,rfl⟩⟩
 |.pair a b=>by
  have:=Rp.pair_mk (Z2Y (w:=w) (F:=F) (St:=St) (Al:=Al) a) (Z2Y b);rw[YP]at this;exact this
end
end Go.PI
namespace Go.PI
theorem Z0q {v:Value}(h:one v=true):Z02 v=[v]:=by cases v<;>simp_all[one,Z02,Value.cells]
section
variable {w:World}{F:Nat->Nat}{St Al:Nat->Prop}{v:Value}{tg:List Tag}{fp:List Nat}
theorem Z9y {k:IntKind}{x:Int}(b:Z0f false v)(h:Rp w F St Al (.int k) tg (Z02 v) x fp):v= .int k x:=by
 have:=h.1;rw[Z0q b]at this;simpa using this
theorem Z5K {x:Bool}(b:Z0f false v)(h:Rp w F St Al .bool tg (Z02 v) x fp):v= .bool x:=by
 have:=h.1;rw[Z0q b]at this;simpa using this
theorem Z9z {x:ByteArray}(b:Z0f false v)(h:Rp w F St Al .str tg (Z02 v) x fp):v= .string x:=by
 have:=h.1;rw[Z0q b]at this;simpa using this
theorem Z2A {e:Ty}{x:List (El e)}(f:Z0f false v)(h:Rp w F St Al (.slice e) tg (Z02 v) x fp):∃a cap,v= .slice a x.length cap/\x.length<=cap:=by
 obtain⟨t,a,cap,_,b,d,_⟩:=h;rw[Z0q f]at b;exact⟨a,cap,by simpa using b,d⟩
end
theorem Z20 {w:World}{b o n:Nat}{cs:List Value}(h:Z05 w b o n=some cs)(j:Nat)(v:Value)(e:cs[j]? = some v):w.cell? ((⟨b,o,none⟩:Addr).add j)=some v:=by
 have d:(⟨b,o,none⟩:Addr).add j=⟨b,o+j,none⟩:=by unfold Addr.add;split<;>simp_all
 rw[d];unfold Z05 at h;split at h
 ·rename_i c T fr f;split at h
  ·cases h;simp only[World.cell?,f];simp only[Ya,XV]at e;split at e
   ·simpa using e
   ·cases e
  ·cases h
 ·cases h
theorem Z1F (τ:Ty):Z0d τ []=some τ:=by cases τ<;>rfl
theorem Z4C (τ:Ty):Z0g τ []=0:=by cases τ<;>rfl
theorem Z0T {w:World}:{q:List Step}->{τ d:Ty}->{cs:List Value}->{base:Option (Nat×Nat)}->Z0d τ q=some d->cs.length=size τ ->
  Z00 w τ cs base q=some ((cs.drop (Z0g τ q)).take (size d),base.map λx=>(x.1,x.2+Z0g τ q))/\Z0g τ q+size d<=size τ
 | [],τ,d,cs,base,h,e=>by
  rw[Z1F]at h;cases h;rw[Z0O,Z4C];refine⟨?_,by omega⟩
  rw[Xf,<-e,Xi];cases base<;>simp
 |.fst::p,.pair a b,d,cs,base,h,e=>by
  simp only[Z0d]at h;simp only[size]at e;obtain⟨g,i⟩:=Z0T (w:=w) (cs:=cs.take (size a)) (base:=base) h (by simp;omega)
  simp only[Z00,Z0g,size];refine⟨?_,by omega⟩
  rw[g,Yz,List.take_take];congr 2;congr 1;omega
 |.snd::p,.pair a b,d,cs,base,h,e=>by
  simp only[Z0d]at h;simp only[size]at e;obtain⟨g,i⟩:=Z0T (w:=w) (cs:=cs.drop (size a)) (base:=base.map λx=>(x.1,x.2+size a)) h (by simp;omega)
  simp only[Z00,Z0g,size];refine⟨?_,by omega⟩
  rw[g,X9];cases base with
  |none=>rfl
  |some z=>simp[Nat.add_assoc]
 |.idx _::_,.int _,_,_,_,h,_=>by simp[Z0d]at h
 |.idx _::_,.bool,_,_,_,h,_=>by simp[Z0d]at h
 |.idx _::_,.str,_,_,_,h,_=>by simp[Z0d]at h
 |.idx _::_,.unit,_,_,_,h,_=>by simp[Z0d]at h
 |.idx _::_,.slice _,_,_,_,h,_=>by simp[Z0d]at h
 |.idx _::_,.pair _ _,_,_,_,h,_=>by simp[Z0d]at h
 |.fst::_,.int _,_,_,_,h,_=>by simp[Z0d]at h
 |.fst::_,.bool,_,_,_,h,_=>by simp[Z0d]at h
 |.fst::_,.str,_,_,_,h,_=>by simp[Z0d]at h
 |.fst::_,.unit,_,_,_,h,_=>by simp[Z0d]at h
 |.fst::_,.slice _,_,_,_,h,_=>by simp[Z0d]at h
 |.snd::_,.int _,_,_,_,h,_=>by simp[Z0d]at h
 |.snd::_,.bool,_,_,_,h,_=>by simp[Z0d]at h
 |.snd::_,.str,_,_,_,h,_=>by simp[Z0d]at h
 |.snd::_,.unit,_,_,_,h,_=>by simp[Z0d]at h
 |.snd::_,.slice _,_,_,_,h,_=>by simp[Z0d]at h
def Z0J (ag:Bool)(cs:List Value):Value:=if ag then .agg cs.toArray else cs.headD undef
theorem Z1X {P:Program}{j:List (TypeId×Ty×List TypeId)}(J:Z0e P j){t:TypeId}{τ:Ty}{l:List TypeId}(ht:Z0o j t=some (τ,l)){w:World}{b o:Nat}{cs:List Value}
  (h:Z05 w b o (size τ)=some cs):(loadVar t ⟨b,o,none⟩).run P w= .ok (Z0J (!l.isEmpty) cs) w:=by
 obtain⟨⟨i,z,M,Q,_,_,U,T,_⟩,R,u⟩:=J t τ l ht;have f:=Z1C h;cases l with
 |cons a l=>
  obtain⟨A,L,_,_⟩:=u (by simp)
  have:=run_loadCells_list (P:=P) w ⟨b,o,none⟩ cs (Z20 h);rw[f,<-Q]at this;simp[loadVar,isAgg,run_underlying L,sizeOf,typeInfo,M,this,Z0J]
 |nil=>
  have r:∃d,P.underlying t=some d/\(∀A,d≠ .struct A)/\(∀n e,d≠ .array n e)/\size τ=1:=by
   obtain⟨m,C,D,E,G,H⟩:=R rfl;cases τ with
   |int k=>exact⟨_,m k rfl,by simp,by simp,rfl⟩
   |bool=>exact⟨_,C rfl,by simp,by simp,rfl⟩
   |str=>exact⟨_,D rfl,by simp,by simp,rfl⟩
   |unit=>exact absurd rfl G
   |slice e=>obtain⟨et,I,_,_⟩:=E e rfl;exact⟨_,I,by simp,by simp,rfl⟩
   |pair a b=>exact absurd rfl (H a b)
  obtain⟨d,K,p,q,y⟩:=r;have m:∃c,cs=[c]:=by
   rw[y]at f
   match cs,f with
   | [c],_=>exact⟨c,rfl⟩
  obtain⟨c,rfl⟩:=m;have B:=Z20 h 0 c rfl;have g:(isAgg t).run P w= .ok false w:=by
   simp only[isAgg,Sem.run_bind,run_underlying K,Result.andThen_ok];cases d<;>first | rfl | (exact absurd rfl (p _)) | (exact absurd rfl (q _ _))
  simp only[loadVar,Sem.run_bind,g,Result.andThen_ok,Xj,XI];rw[run_load];have:(⟨b,o,none⟩:Addr).add 0=⟨b,o,none⟩:=by simp[Addr.add]
  rw[this]at B;rw[B];rfl
end Go.PI
namespace Go.PI
def Z4n (w:World)(G:Ghost)(w2:World):Prop:=∀i b,G.who b=some (.a i)->w2.heap[b]? = w.heap[b]?
def Z6g (w:World)(G:Ghost)(w2:World):Prop:=
 (∀b,b<w.heap.size->G.Al b->∀o n cs,o+n<=G.F b->Z05 w b o n=some cs->Z05 w2 b o n=some cs)/\∀i b,G.who b=some (.a i)->w2.heap[b]? = w.heap[b]?
theorem Rp.ones {w:World}{F:Nat->Nat}{St Al:Nat->Prop}:{τ:Ty}->{tg:List Tag}->{cs:List Value}->{x:El τ}->{fp:List Nat}->Rp w F St Al τ tg cs x fp->∀c∈cs,one c=true
 |.int _,_,_,_,_,h=>by obtain⟨rfl,_⟩:=h;simp[one]
 |.bool,_,_,_,_,h=>by obtain⟨rfl,_⟩:=h;simp[one]
 |.str,_,_,_,_,h=>by obtain⟨rfl,_⟩:=h;simp[one]
 |.unit,_,_,_,_,h=>by obtain⟨rfl,_⟩:=h;simp
 |.slice _,_,_,_,_,h=>by obtain⟨t,a,cap,rfl,rfl,_⟩:=h;simp[one]
 |.pair a b,_,_,_,_,h=>by
  obtain⟨l,m,g,i,j,k,rfl,rfl,rfl,e,f⟩:=h;intro c d;rcases Qr.1 d with d | d
  ·exact Rp.ones e c d
  ·exact Rp.ones f c d
theorem Z1g {ag:Bool}{cs:List Value}(b:∀c∈cs,one c=true)(d:ag=false->cs.length=1):Z02 (Z0J ag cs)=cs/\Z0f ag (Z0J ag cs):=by
 cases ag with
 |true=>exact⟨by simp[Z0J,Z02,Value.cells],⟨_,rfl⟩⟩
 |false=>
  match cs,d rfl with
  | [c],_=>
   have:=b c (by simp)
   exact⟨Z0q this,this⟩
theorem Z30 {w:World}{b o n:Nat}{cs:List Value}(h:Z05 w b o n=some cs){i m:Nat}(e:i+m<=n):Z05 w b (o+i) m=some ((cs.drop i).take m):=by
 unfold Z05 at *;split at h
 ·rename_i c T fr d;split at h
  ·cases h;rw[QM (by omega)]
   congr 1;rw[Yz,X9,List.take_take];congr 1;omega
  ·cases h
 ·cases h
section
variable {W0:Base}{M:Nat->Prop}{σ:State}{a:Act}{w:World}{G:Ghost}{xs:List Nat}
theorem Z3u {F:Nat->Nat}{St Al:Nat->Prop}(u:∀b,St b->Al b) :
  {path:List Step}->{τ:Ty}->{tg:List Tag}->{cs f:List Value}->{x:El τ}->{fp:List Nat}->{base:Option (Nat×Nat)}->{k o':Nat} ->
  Rp w F St Al τ tg cs x fp->(∀b o,base=some (b,o)->Z05 w b o cs.length=some cs)->Z00 w τ cs base path=some (f,some (k,o')) ->
  Z05 w k o' f.length=some f/\((∃o,base=some (k,o)/\o<=o'/\o'+f.length<=o+cs.length)\/(Al k/\o'+f.length<=F k))
 | [],τ,tg,cs,f,x,fp,base,k,o',h,B,d=>by
  rw[Z0O]at d;simp only[Q9,Qs]at d;obtain⟨rfl,g⟩:=d;exact⟨B _ _ g,.inl ⟨o',g,Qq _,Qq _⟩⟩
 |.fst::p,.pair a b,tg,cs,f,x,fp,base,k,o',h,B,d=>by
  have q:=h.len.1;obtain⟨f1,f2,rfl,Y,Z⟩:=h.pair_parts;simp only[size]at q;obtain⟨C,y⟩:=Z3u u (path:=p) Y (λb o g=>by
   have:=Z30 (B b o g) (i:=0) (m:=(cs.take (size a)).length) (by simp;omega)
   simp only[XK,Xf]at this;rw[this];simp) d
  refine⟨C,y.imp (λ⟨o,r,Q,L⟩=>⟨o,r,Q,?_⟩) id⟩
  simp at L;omega
 |.snd::p,.pair a b,tg,cs,f,x,fp,base,k,o',h,B,d=>by
  have q:=h.len.1;obtain⟨f1,f2,rfl,Y,Z⟩:=h.pair_parts;simp only[size]at q;obtain⟨C,y⟩:=Z3u u (path:=p) Z (λb o g=>by
   cases j:base with
   |none=>rw[j]at g;cases g
   |some z=>
    rw[j]at g;simp only[XU,Q9,Qs]at g;obtain⟨rfl,rfl⟩:=g;have:=Z30 (B z.1 z.2 j) (i:=size a) (m:=(cs.drop (size a)).length) (by simp;omega)
    rw[this,Xi]) d
  refine⟨C,y.imp (λ⟨o,r,Q,L⟩=> ?_) id⟩
  cases j:base with
  |none=>rw[j]at r;cases r
  |some z=>
   rw[j]at r;simp only[XU,Q9,Qs]at r;obtain⟨rfl,rfl⟩:=r;refine⟨z.2,rfl,by omega,?_⟩
   simp at L;omega
 |.idx i::p,.slice e,tg,cs,f,x,fp,base,k,o',h,B,d=>by
  obtain⟨t,ad,cap,rfl,rfl,hlc,h⟩:=h;simp only[Z00]at d;split at d
  ·rename_i b o len X D;simp only[X4,Value.slice.injEq,and_true]at D;obtain⟨rfl,rfl,rfl⟩:=D;split at d
   ·rename_i E;split at d
    ·rename_i P v;have T:=Z1C v;have hbd:o+i * size e+size e<=o+List.length (α:=El e) x * size e:=by
      have:(i+1) * size e<=List.length (α:=El e) x * size e:=Qt _ E;rw[QC,Xg]at this;omega
     have J:∀ {K f'} (_:Rp w F St Al e K P (List.get (α:=El e) x ⟨i,E⟩) f') (_:Al b) (_:o+List.length (α:=El e) x * size e<=F b),
       Z05 w k o' f.length=some f/\((∃o,base=some (k,o)/\o<=o'/\o'+f.length<=o+1)\/(Al k/\o'+f.length<=F k)):=by
      intro K f' H A R;obtain⟨C,y⟩:=Z3u u (path:=p) H (λW V g=>by
       simp only[Q9,Qs]at g;obtain⟨rfl,rfl⟩:=g;rw[T];exact v) d
      refine⟨C,.inr ?_⟩;rcases y with⟨V,r,Q,L⟩ | y
      ·simp only[Q9,Qs]at r;obtain⟨rfl,rfl⟩:=r;exact⟨A,by omega⟩
      ·exact y
     rcases h with⟨_,hn,_⟩ | ⟨ho,W,V,fps,l,A,rfl,hlf,hr,R,U⟩ | ⟨ho,rfl,h⟩
     ·cases hn
     ·simp only[Q9,Addr.mk.injEq,and_true]at l;obtain⟨rfl,rfl⟩:=l;obtain⟨c2,n,H⟩:=U i E;rw[v]at n;cases n;exact J H A (by omega)
     ·rcases h with h | ⟨W,V,l,I,R,U⟩
      ·subst h;simp at E
      ·simp only[Q9,Addr.mk.injEq,and_true]at l;obtain⟨rfl,rfl⟩:=l;obtain⟨c2,n,H⟩:=U i E;rw[v]at n;cases n;refine J H ?_ R;cases t with
       |S=>exact u b I
       |N=>exact I
       |_=>cases ho
    ·cases d
   ·cases d
  ·cases d
 |.fst::_,.int _,_,_,_,_,_,_,_,_,_,_,d=>by simp[Z00]at d
 |.fst::_,.bool,_,_,_,_,_,_,_,_,_,_,d=>by simp[Z00]at d
 |.fst::_,.str,_,_,_,_,_,_,_,_,_,_,d=>by simp[Z00]at d
 |.fst::_,.unit,_,_,_,_,_,_,_,_,_,_,d=>by simp[Z00]at d
 |.fst::_,.slice _,_,_,_,_,_,_,_,_,_,_,d=>by simp[Z00]at d
 |.snd::_,.int _,_,_,_,_,_,_,_,_,_,_,d=>by simp[Z00]at d
 |.snd::_,.bool,_,_,_,_,_,_,_,_,_,_,d=>by simp[Z00]at d
 |.snd::_,.str,_,_,_,_,_,_,_,_,_,_,d=>by simp[Z00]at d
 |.snd::_,.unit,_,_,_,_,_,_,_,_,_,_,d=>by simp[Z00]at d
 |.snd::_,.slice _,_,_,_,_,_,_,_,_,_,_,d=>by simp[Z00]at d
 |.idx _::_,.int _,_,_,_,_,_,_,_,_,_,_,d=>by simp[Z00]at d
 |.idx _::_,.bool,_,_,_,_,_,_,_,_,_,_,d=>by simp[Z00]at d
 |.idx _::_,.str,_,_,_,_,_,_,_,_,_,_,d=>by simp[Z00]at d
 |.idx _::_,.unit,_,_,_,_,_,_,_,_,_,_,d=>by simp[Z00]at d
 |.idx _::_,.pair _ _,_,_,_,_,_,_,_,_,_,_,d=>by simp[Z00]at d
theorem Z1D (I:Inv W0 M σ a w G xs){p:Place}{cs:List Value}{b o:Nat}(F:Z0A σ G a w p cs (some (b,o))){w2:World}(z:Z6g w G w2) :
  Z05 w2 b o cs.length=some cs:=by
 obtain⟨τ,l,A,u,h,E⟩:=F;obtain⟨c,r,rfl⟩:=Qm.1 u;obtain⟨l',K,fp,i,v,J⟩:=Z0F I r;rw[h]at i;cases i;have e:∀b o,A=some (b,o)->Z05 w b o l.length=some l/\w2.heap[b]? = w.heap[b]? := by
  intro b o d;rcases J with⟨y,q,_,f⟩ | ⟨y,_,_,f,_⟩
  ·rw[f]at d;simp only[Q9,Qs]at d;obtain⟨rfl,rfl⟩:=d;obtain⟨⟨k,T,g,H⟩,j⟩:=I.box _ _ q;refine⟨?_,z.2 _ _ j⟩;have:l=k.toList:=by
    unfold Z09 at h;rw[y]at h;simp only[g,Q9,Qs]at h;exact h.1.symm
   subst this;unfold Z05;rw[g];simp only[Xu,Xf];rw[QM (by have:k.toList.length=k.size:=X8;omega),Xi]
  ·rw[f]at d;cases d
 obtain⟨m,B⟩:=Z3u (Ghost.St_Al I) v (λb o d=>(e b o d).1) E
 rcases B with⟨L,C,_⟩ | ⟨n,D⟩
 ·rw[Z0Z (e _ _ C).2];exact m
 ·exact z.1 b (Z0W m) n _ _ _ D m
theorem Z1K (I:Inv W0 M σ a w G xs){p:Place}{u:TVal}{cs:List Value}{base:Option (Nat×Nat)}(h:σ.getAt p=some u)(d:Z0A σ G a w p cs base) :
  cs.length=size u.τ/\∀c∈cs,one c=true:=by
 obtain⟨fp,b⟩:=Z2t I h d;exact⟨b.len.1,b.ones⟩
theorem Z2y (I:Inv W0 M σ a w G xs){p:Place}{ag:Bool}{tv:TV}{v:Value}{cs:List Value}{base:Option (Nat×Nat)}(h:Z35 σ p ag=some tv)(d:Z0A σ G a w p cs base)
  (g:Z02 v=cs) (f:Z0f ag v):Z01 σ G a w tv v []:=by
 unfold Z35 at h;split at h
 ·rename_i u j;cases h;split
  ·rename_i i;obtain⟨fp,e⟩:=Z2t I j d;have b:fp=[]:=e.fp_nil λt ht=>by
    have:=QD.1 i t ht;cases t<;>first | rfl | cases this
   subst b;exact⟨f,by rw[g];exact e⟩
  ·exact⟨rfl,.inr ⟨cs,base,d,g,f⟩⟩
 ·cases h
theorem Z0w.some {p:Place}{v:Value}{u:TVal}(h:Z0w σ G a w p v)(e:σ.getAt p=some u):∃cs b,Z0A σ G a w p cs (some b)/\v= .pointer (some ⟨b.1,b.2,none⟩):=by
 rcases h with h | h
 ·obtain⟨c,d,_⟩:=Z0B e;rw[State.ct,d]at h;cases h
 ·exact h
theorem Z03 {ρ:Operand->Value}{o:Oper}{op:Op}(h:o.op=op):execOp ρ o=execOp ρ { o with op:=op }:=by cases o;simp only at h;subst h;rfl
def Z5N (P:Program)(σ:State)(a:Act)(w:World)(G:Ghost)(o:Oper)(tv:TV):Prop:=
 ∃v,Z01 σ G a w tv v []/\∀w2,Z6g w G w2->(execOp a.eval o).run P w2= .ok (.value v) w2
def Z0N (P:Program)(σ:State)(a:Act)(w:World)(G:Ghost)(o:Oper)(tv:TV):Prop:=
 ∃v,Z01 σ G a w tv v []/\∀w2,(execOp a.eval o).run P w2= .ok (.value v) w2
theorem Z0N.ok {P:Program}{σ:State}{a:Act}{w:World}{G:Ghost}{o:Oper}{tv:TV}(h:Z0N P σ a w G o tv):Z5N P σ a w G o tv:=by
 obtain⟨v,b,d⟩:=h;exact⟨v,b,λw2 _=>d w2⟩
theorem Z8U {P:Program}{j:List (TypeId×Ty×List TypeId)}(D:Z0e P j)(I:Inv W0 M σ a w G xs){o:Oper}{t:TypeId}{x:Operand}(V:o.op= .load t x){g:Bool}{tv:TV}
  (h:Z0l j σ o.op=some (g,tv)):Z5N P σ a w G o tv:=by
 rw[V]at h;simp only[Z0l]at h;have k:=Z0v I x;split at h
 ·rename_i τ p U Q;rw[Q]at k;have k:=k (by simp)
  split at h
  ·rename_i u R;split at h
   ·rename_i q;obtain⟨Y,C,E⟩:=Qm.1 h;simp only[Qs]at E;obtain⟨rfl,rfl⟩:=E;obtain⟨⟨A,l⟩,f,v⟩:=Qm.1 U;simp only at v;subst v;obtain⟨cs,b,y,T⟩:=k.2.2.2.some R;obtain⟨e,z⟩:=Z1K I R y;have m:agOf j t= !l.isEmpty:=by simp[agOf,f]
    have n:=Z1g (ag:=agOf j t) z (λB=>by
     rw[e,q];rw[m]at B;have K:l=[]:=by simpa using B
     obtain⟨_,_,_,_,F,H⟩:=(D t A l f).und K;cases A<;>first | rfl | (exact absurd rfl F) | (exact absurd rfl (H _ _)))
    refine⟨Z0J (agOf j t) cs,Z2y I C y n.1 n.2,λw2 J=> ?_⟩
    have d:=Z1D I y J;rw[e,q]at d;have:=Z1X (w:=w2) D f d;rw[Z03 V];simp only[execOp,T,Instr.loadAt,Instr.sureAddr,Sem.run_bind,Sem.run_pure,Result.andThen_ok,this,m]
   ·cases h
  ·cases h
 ·rename_i τ p U Q;rw[Q]at k;have k:=k (by simp)
  split at h
  ·rename_i u R;split at h
   ·rename_i q;obtain⟨Y,C,E⟩:=Qm.1 h;simp only[Qs]at E;obtain⟨rfl,rfl⟩:=E;obtain⟨⟨A,l⟩,f,v⟩:=Qm.1 U;simp only at v;subst v;obtain⟨cs,b,y,T⟩:=k.2.some R;obtain⟨e,z⟩:=Z1K I R y;have m:agOf j t= !l.isEmpty:=by simp[agOf,f]
    have n:=Z1g (ag:=agOf j t) z (λB=>by
     rw[e,q];rw[m]at B;have K:l=[]:=by simpa using B
     obtain⟨_,_,_,_,F,H⟩:=(D t A l f).und K;cases A<;>first | rfl | (exact absurd rfl F) | (exact absurd rfl (H _ _)))
    refine⟨Z0J (agOf j t) cs,Z2y I C y n.1 n.2,λw2 J=> ?_⟩
    have d:=Z1D I y J;rw[e,q]at d;have:=Z1X (w:=w2) D f d;rw[Z03 V];simp only[execOp,T,Instr.loadAt,Instr.sureAddr,Sem.run_bind,Sem.run_pure,Result.andThen_ok,this,m]
   ·cases h
  ·cases h
 ·rename_i τ u tg U Q;rw[Q]at k;obtain⟨_,hto,b,off,cs,T,d,X,Z,hN,hr⟩:=k (by simp)
  split at h
  ·rename_i q;simp only[Q9,Qs]at h;obtain⟨rfl,rfl⟩:=h;obtain⟨⟨A,l⟩,f,v⟩:=Qm.1 U;simp only at v;subst v;have e:=hr.len.1;have m:agOf j t= !l.isEmpty:=by simp[agOf,f]
   have n:=Z1g (ag:=agOf j t) hr.ones (λB=>by
    rw[e,q];rw[m]at B;have K:l=[]:=by simpa using B
    obtain⟨_,_,_,_,F,H⟩:=(D t A l f).und K;cases A<;>first | rfl | (exact absurd rfl F) | (exact absurd rfl (H _ _)))
   refine⟨Z0J (agOf j t) cs,⟨n.2,?_⟩,λw2 J=> ?_⟩
   ·rw[n.1];exact hr.alias (Ghost.St_Al I)
   ·have ab:G.Al b:=by
     cases tg with
     |S=>exact Ghost.St_Al I b X
     |N=>exact X
     |_=>cases hto
    have i:=J.1 b (Z0W d) ab _ _ _ Z d;rw[q]at i;have:=Z1X (w:=w2) D f i;rw[Z03 V];simp only[execOp,T,Instr.loadAt,Instr.sureAddr,Sem.run_bind,Sem.run_pure,Result.andThen_ok,this,m]
  ·cases h
 ·rename_i τ r τr p U Q;rw[Q]at k;obtain⟨_,hfl,b,off,τ2,T,ac,af,d,aa,Z⟩:=k (by simp)
  split at h
  ·rename_i c hsl;split at h
   ·rename_i ad;split at h
    ·rename_i u R;split at h
     ·rename_i q;obtain⟨Y,C,E⟩:=Qm.1 h;simp only[Qs]at E;obtain⟨rfl,rfl⟩:=E;obtain⟨⟨A,l⟩,f,v⟩:=Qm.1 U;simp only at v;subst v;subst ad;obtain⟨ae,_⟩:=Z0T (w:=w) (cs:=Z02 (a.tmps.getD r undef)) (base:=none) ac af;have y:Z0A σ G a w ⟨false,r,p⟩ (((Z02 (a.tmps.getD r undef)).drop (Z0g c.τ p)).take (size τ2)) none:=
       ⟨c.τ,Z02 (a.tmps.getD r undef),none,by simp[State.ct,State.content,hsl],rfl,ae⟩
      obtain⟨e,z⟩:=Z1K I R y;have L:=Z1C d;have m:agOf j t= !l.isEmpty:=by simp[agOf,f]
      have n:=Z1g (ag:=agOf j t) z (λB=>by
       rw[e,q];rw[m]at B;have K:l=[]:=by simpa using B
       obtain⟨_,_,_,_,F,H⟩:=(D t A l f).und K;cases A<;>first | rfl | (exact absurd rfl F) | (exact absurd rfl (H _ _)))
      refine⟨Z0J (agOf j t) _,Z2y I C y n.1 n.2,λw2 J=> ?_⟩
      have i:=J.1 b (Z0W d) (Ghost.St_Al I b aa) _ _ _ Z d;have W:size τ2=size A:=by rw[<-L,e,q]
      rw[W]at i;have:=Z1X (w:=w2) D f i;rw[Z03 V];simp only[execOp,T,Instr.loadAt,Instr.sureAddr,Sem.run_bind,Sem.run_pure,Result.andThen_ok,this,m,W]
     ·cases h
    ·cases h
   ·cases h
  ·cases h
 ·cases h
end
end Go.PI
namespace Go.PI
section
variable {W0:Base}{M:Nat->Prop}{σ:State}{a:Act}{w:World}{G:Ghost}{xs:List Nat}{P:Program}{tys:List (TypeId×Ty×List TypeId)}{o:Oper}{g:Bool}{tv:TV}
theorem Z0z {τ:Ty}{x:El τ}{v:Value}(b:one v=true)(d:Rp w G.F G.St G.Al τ [] [v] x []):Z01 σ G a w (.val (Z0y τ x)) v []:=
 ⟨b,by rw[Z0q b];exact d⟩
theorem Z99 {σ:State}{i:Nat}(h:Z0u .dead σ.slots i≠ .dead):i<σ.slots.length:=by
 rcases Yi i σ.slots.length with b | b
 ·exact b
 ·exact absurd (Z2e (d:=TV.dead) σ.slots i b) h
theorem Z3f (I:Inv W0 M σ a w G xs){x:Operand}(e:o.op= .move x)(h:Z0l tys σ o.op=some (g,tv)):Z0N P σ a w G o tv:=by
 rw[e]at h;simp only[Z0l]at h;have m:=Z0v I x;split at h
 ·cases h
 ·cases h
 ·rename_i v ags b;split at h
  ·rename_i t;simp only[Q9,Qs]at h;obtain⟨rfl,rfl⟩:=h;have d:σ.slot t= .tup v ags:=by
    simp only[State.peek]at b;split at b
    ·split at b<;>cases b
    ·exact b
   have i:=I.slot t (Z99 (by rw[show Z0u .dead σ.slots t= .tup v ags from d];simp))
   rw[d]at i;obtain⟨⟨vs,n,f⟩,r⟩:=i;refine⟨a.eval (.tmp t),⟨rfl,λτ j=>⟨rfl,vs,n,?_⟩⟩,λw2=>by rw[Z03 e];rfl⟩
   rw[Z1k,d]at j;cases j;exact f
  ·cases h
 ·rename_i q p k;simp only[Q9,Qs]at h;obtain⟨rfl,rfl⟩:=h;refine⟨a.eval x,m (λv ags l=>k v ags l),λw2=> ?_⟩
  rw[Z03 e];rfl
theorem Z0P (I:Inv W0 M σ a w G xs){x:Operand}{k:IntKind}{n:Int}{tg:List Tag}(h:σ.look x=some ⟨.int k,false,n,tg⟩):a.eval x= .int k n:=by
 obtain⟨b,d⟩:=Z1p I h;exact Z9y d b
theorem Z24 (I:Inv W0 M σ a w G xs){x:Operand}{b:Bool}{tg:List Tag}(h:σ.look x=some ⟨.bool,false,b,tg⟩):a.eval x= .bool b:=by
 obtain⟨d,e⟩:=Z1p I h;exact Z5K e d
theorem Z25 (I:Inv W0 M σ a w G xs){x:Operand}{s:ByteArray}{tg:List Tag}(h:σ.look x=some ⟨.str,false,s,tg⟩):a.eval x= .string s:=by
 obtain⟨b,d⟩:=Z1p I h;exact Z9z d b
theorem Z8s (I:Inv W0 M σ a w G xs){x:Operand}{e:Ty}{l:List (El e)}{tg:List Tag}(h:σ.look x=some ⟨.slice e,false,l,tg⟩):∃b cap,a.eval x= .slice b l.length cap/\l.length<=cap:=by
 obtain⟨d,f⟩:=Z1p I h;exact Z2A f d
theorem Z6O (I:Inv W0 M σ a w G xs){f:UnOp}{t:TypeId}{x:Operand}(e:o.op= .unOp f t x)(h:Z0l tys σ o.op=some (g,tv)):Z0N P σ a w G o tv:=by
 rw[e]at h;cases f
 case neg=>
  simp only[Z0l]at h;split at h
  ·rename_i k n tg d;simp only[Q9,Qs]at h;obtain⟨rfl,rfl⟩:=h;refine⟨.int k (k.wrap (0-n)),Z0z rfl ⟨rfl,rfl,rfl⟩,λw2=> ?_⟩
   rw[Z03 e];simp only[execOp,Z0P I d];simp[Op.unary,Op.intArith]
  ·cases h
 case not=>
  simp only[Z0l]at h;split at h
  ·rename_i b tg d;simp only[Q9,Qs]at h;obtain⟨rfl,rfl⟩:=h;refine⟨.bool (!b),Z0z rfl ⟨rfl,rfl,rfl⟩,λw2=> ?_⟩
   rw[Z03 e];simp only[execOp,Z24 I d];simp[Op.unary]
  ·cases h
 all_goals (simp only[Z0l]at h;cases h)
theorem Z9v {x y:ByteArray}(h:lim (x.size+y.size)=true)(w2:World):(Op.stringOp .add x y).run P w2= .ok (.string (x++y)) w2:=by
 refine run_string_add_sum (P:=P) w2 x y ?_;have b:x.size+y.size<=LIM:=QT h;have:LIM=2147483648:=rfl;omega
theorem Z9w {k:IntKind}{m n:Int}(h:¬ n=0)(w2:World):(Op.intDiv .quo k m n).run P w2= .ok (.int k (k.wrap (m.tdiv n))) w2:=by
 unfold Op.intDiv;rw[QN h];rfl
theorem Z9x {k:IntKind}{m n:Int}(h:¬ n=0)(w2:World):(Op.intDiv .rem k m n).run P w2= .ok (.int k (m.tmod n)) w2:=by
 unfold Op.intDiv;rw[QN h];rfl
theorem Z5A {t:TypeId}(h:P.underlying t=some .bool)(x y:Bool)(w2:World):(Op.equal t (.bool x) (.bool y)).run P w2= .ok (x==y) w2:=by
 show (Op.equalIn (9999+1) t (.bool x) (.bool y)).run P w2=_
 unfold Op.equalIn;simp only[Sem.run_bind,run_underlying h,Result.andThen_ok];rfl
theorem Z8R (b:BinOp)(k:IntKind)(m n:Int){r:Bool×TVal}(e:Z95 b k m n=some r)(d:r.1=true)(t:TypeId)(x y:Operand) :
  ∃v,(∀ {σ:State} {a:Act} {w:World} {G:Ghost},Z01 σ G a w (.val r.2) v [])/\∀w2,((do eqGuard b t x y (.int k m) (.int k n);binOp b t (.int k m) (.int k n):Sem Value)).run P w2= .ok v w2:=by
 cases b<;>simp only[Z95,Q9,reduceCtorEq]at e<;>subst e<;>simp only[QF,Xk]at d
 case quo=>
  refine⟨_,Z0z rfl ⟨rfl,rfl,rfl⟩,λw2=> ?_⟩
  simp only[eqGuard_at_int,Sem.run_bind,Sem.run_pure,Result.andThen_ok];simp only[binOp,ne_eq,not_true_eq_false,XI];exact Z9w d w2
 case rem=>
  refine⟨_,Z0z rfl ⟨rfl,rfl,rfl⟩,λw2=> ?_⟩
  simp only[eqGuard_at_int,Sem.run_bind,Sem.run_pure,Result.andThen_ok];simp only[binOp,ne_eq,not_true_eq_false,XI];exact Z9x d w2
 all_goals
  refine⟨_,Z0z rfl ⟨rfl,rfl,rfl⟩,λw2=> ?_⟩
  simp[eqGuard_at_int,binOp,Op.intArith,Op.intCmp,Op.intBits]
theorem Z8S (b:BinOp)(m n:ByteArray){r:Bool×TVal}(d:Z96 b m n=some r)(e:r.1=true)(t:TypeId)(x y:Operand) :
  ∃v,(∀ {σ:State} {a:Act} {w:World} {G:Ghost},Z01 σ G a w (.val r.2) v [])/\∀w2,((do eqGuard b t x y (.string m) (.string n);binOp b t (.string m) (.string n):Sem Value)).run P w2= .ok v w2:=by
 cases b<;>simp only[Z96,Q9,reduceCtorEq]at d<;>subst d
 case add=>
  refine⟨.string (m++n),Z0z rfl ⟨rfl,rfl,rfl⟩,λw2=> ?_⟩
  simp only[eqGuard_at_string,binOp_string_add,Sem.run_bind,Sem.run_pure,Result.andThen_ok];exact Z9v e w2
 all_goals exact⟨_,Z0z rfl ⟨rfl,rfl,rfl⟩,λw2=>by simp[eqGuard_at_string,binOp,Op.stringOp]⟩
theorem Z0Q {t:TypeId}{τ:Ty}(h:tyOf tys t=some τ):∃l,Z0o tys t=some (τ,l)/\agOf tys t= !l.isEmpty:=by
 obtain⟨⟨e,l⟩,b,d⟩:=Qm.1 h;simp only at d;subst d;exact⟨l,b,by simp[agOf,b]⟩
theorem Z7C (f:Z0e P tys){t:TypeId}(h:tyOf tys t=some .bool)(e:agOf tys t=false):P.underlying t=some .bool:=by
 obtain⟨l,d,b⟩:=Z0Q h;rw[b]at e;have i:l=[]:=by simpa using e
 exact((f t _ _ d).und i).2.1 rfl
theorem Z1H (f:Z0e P tys){t:TypeId}(h:tyOf tys t=some .str)(e:agOf tys t=false):P.underlying t=some .string:=by
 obtain⟨l,d,b⟩:=Z0Q h;rw[b]at e;have i:l=[]:=by simpa using e
 exact((f t _ _ d).und i).2.2.1 rfl
theorem Z5s (f:Z0e P tys){t:TypeId}{k:IntKind}(h:tyOf tys t=some (.int k))(e:agOf tys t=false):P.underlying t=some (.int k):=by
 obtain⟨l,d,b⟩:=Z0Q h;rw[b]at e;have i:l=[]:=by simpa using e
 exact((f t _ _ d).und i).1 k rfl
theorem Z10 (p:Z0e P tys){t:TypeId}{e:Ty}(h:tyOf tys t=some (.slice e))(f:agOf tys t=false):∃et l,P.underlying t=some (.slice et)/\Z0o tys et=some (e,l)/\(Z7o e=true->l=[]):=by
 obtain⟨l,d,b⟩:=Z0Q h;rw[b]at f;have q:l=[]:=by simpa using f
 obtain⟨et,i,j,m⟩:=((p t _ _ d).und q).2.2.2.1 e rfl;obtain⟨l',k,n⟩:=Z0Q j;exact⟨et,l',i,k,λr=>by have:=m r;rw[n]at this;simpa using this⟩
theorem Z8T (z:Z0e P tys)(I:Inv W0 M σ a w G xs){l:BinOp}{t ty:TypeId}{x y:Operand}(h:o.op= .binOp l t x y ty){u v:TVal}(i:σ.look x=some u)(j:σ.look y=some v){r:Bool×TVal}(b:Z97 tys t l u v=some r)(d:r.1=true):Z0N P σ a w G o (.val r.2):=by
 ·unfold Z97 at b;split at b
  ·rename_i k m _ A n _;simp only[Q9]at b;subst b;simp only[QF,Xk]at d;refine⟨_,Z0z rfl ⟨rfl,rfl,rfl⟩,λw2=> ?_⟩
   rw[Z03 h];simp only[execOp,Z0P I i,Z0P I j];have:¬ (n<0):=d;simp[eqGuard_at_int,binOp,Op.shift,this]
  ·rename_i k m _ A n _;simp only[Q9]at b;subst b;simp only[QF,Xk]at d;refine⟨_,Z0z rfl ⟨rfl,rfl,rfl⟩,λw2=> ?_⟩
   rw[Z03 h];simp only[execOp,Z0P I i,Z0P I j];have:¬ (n<0):=d;simp[eqGuard_at_int,binOp,Op.shift,this]
  ·rename_i k m _ A n _ _ _;split at b
   ·rename_i D;subst D;obtain⟨v,q,f⟩:=Z8R (P:=P) l k m n b d t x y;refine⟨v,q,λw2=> ?_⟩
    rw[Z03 h];simp only[execOp,Z0P I i,Z0P I j];have:=f w2;simp only[Sem.run_bind]at this ⊢;rw[this];rfl
   ·cases b
  ·rename_i m _ n _;obtain⟨v,q,f⟩:=Z8S (P:=P) l m n b d t x y;refine⟨v,q,λw2=> ?_⟩
   rw[Z03 h];simp only[execOp,Z25 I i,Z25 I j];have:=f w2;simp only[Sem.run_bind]at this ⊢;rw[this];rfl
  ·rename_i B _ C _;split at b
   ·rename_i e;simp only[Q9]at b;subst b;have p:=Z7C z e.1 e.2;refine⟨_,Z0z rfl ⟨rfl,rfl,rfl⟩,λw2=> ?_⟩
    rw[Z03 h];simp only[execOp,Z24 I i,Z24 I j];simp only[eqGuard_at_bool,binOp,Sem.run_bind,Sem.run_pure,Result.andThen_ok,Z5A p]
   ·cases b
  ·rename_i B _ C _;split at b
   ·rename_i e;simp only[Q9]at b;subst b;have p:=Z7C z e.1 e.2;refine⟨_,Z0z rfl ⟨rfl,rfl,rfl⟩,λw2=> ?_⟩
    rw[Z03 h];simp only[execOp,Z24 I i,Z24 I j];simp only[eqGuard_at_bool,binOp,Sem.run_bind,Sem.run_pure,Result.andThen_ok,Z5A p]
   ·cases b
  ·cases b
end
end Go.PI
namespace Go.PI
section
variable {W0:Base}{M:Nat->Prop}{σ:State}{a:Act}{w:World}{G:Ghost}{xs:List Nat}{P:Program}{tys:List (TypeId×Ty×List TypeId)}{o:Oper}{g:Bool}{tv:TV}
theorem ZaD (i:Z0e P tys){t:TypeId}{τ:Ty}(h:tyOf tys t=some τ):∃d,P.underlying t=some d:=by
 obtain⟨l,f,v⟩:=Z0Q h;cases l with
 |cons c l=>obtain⟨z,y,_⟩:=(i t _ _ f).str (by simp);exact⟨_,y⟩
 |nil=>
  obtain⟨j,m,n,p,q,r⟩:=(i t _ _ f).und rfl;cases τ with
  |int k=>exact⟨_,j k rfl⟩
  |bool=>exact⟨_,m rfl⟩
  |str=>exact⟨_,n rfl⟩
  |unit=>exact absurd rfl q
  |slice e=>obtain⟨et,u,_⟩:=p e rfl;exact⟨_,u⟩
  |pair a b=>exact absurd rfl (r a b)
theorem Z8i (l:List Int)(r:ByteArray):l.foldl (λ(r:ByteArray) n=>r.push (UInt8.ofNat n.toNat)) r=⟨r.data++(l.map λn=>UInt8.ofNat n.toNat).toArray⟩:=by
 induction l generalizing r with
 |nil=>simp
 |cons n l b=>
  simp only[QY,b];congr 1;simp[ByteArray.push]
theorem Z7K (I:Inv W0 M σ a w G xs){x:Operand}{l:List Int}{tg:List Tag}(h:σ.look x=some ⟨.slice (.int .u8),false,l,tg⟩){w2:World}(D:Z6g w G w2) :
  (a.eval x= .slice none 0 0/\l=[])\/∃e cap,a.eval x= .slice e l.length cap/\(l=[]\/∃b off,e=some ⟨b,off,none⟩/\∀k (p:k<l.length),w2.cell? ((⟨b,off,none⟩:Addr).add k)=some (.int .u8 l[k])):=by
 obtain⟨A,B⟩:=Z1p I h;obtain⟨t,e,cap,_,j,K,F⟩:=A;rw[Z0q B]at j;have J:a.eval x= .slice e (List.length (α:=Int) l) cap:=by simpa using j
 right;refine⟨e,cap,J,?_⟩;rcases F with⟨_,rfl,n,_⟩ | ⟨u,b,off,fps,i,f,q,_⟩ | ⟨u,_,n⟩
 ·exact .inl n
 ·cases q
 ·rcases n with n | ⟨b,off,i,m,C,E⟩
  ·exact .inl n
  ·refine .inr ⟨b,off,i,λk p=> ?_⟩
   obtain⟨v,d,H⟩:=E k p;simp only[size,Nat.mul_one]at d C;have f:G.Al b:=by
    cases t with
    |S=>exact Ghost.St_Al I b m
    |N=>exact m
    |_=>cases u
   have:=D.1 b (Z0W d) f _ _ _ (by have:k<List.length (α:=Int) l:=p;omega) d
   have r:=Z20 this 0 (.int .u8 (List.get (α:=Int) l ⟨k,p⟩)) (by rw[H.1];rfl)
   have y:(⟨b,off+k,none⟩:Addr).add 0=⟨b,off+k,none⟩:=by simp[Addr.add]
   have z:(⟨b,off,none⟩:Addr).add k=⟨b,off+k,none⟩:=by unfold Addr.add;split<;>simp_all
   rw[y]at r;rw[z];exact r
theorem Z7x (e:Z0e P tys)(I:Inv W0 M σ a w G xs){s t:TypeId}{x:Operand}(z:o.op= .convert s t x)(h:Z0l tys σ o.op=some (g,tv)):Z5N P σ a w G o tv:=by
 rw[z]at h;simp only[Z0l]at h;split at h
 ·cases h
 rename_i d;simp only[Xq,not_or,Bool.not_eq_true]at d;split at h
 ·rename_i k j K n _ v ht q;simp only[Q9,Qs]at h;obtain⟨rfl,rfl⟩:=h;have f:=Z0P I q;refine⟨.int j (j.wrap n),Z0z rfl ⟨rfl,rfl,rfl⟩,λw2 _=> ?_⟩
  rw[Z03 z];simp[execOp,f,convert,run_underlying (Z5s e v d.1),run_underlying (Z5s e ht d.2),Conv.intToInt]
 ·rename_i b _ v ht q;simp only[Q9,Qs]at h;obtain⟨rfl,rfl⟩:=h;have f:=Z25 I q;refine⟨.string b,Z0z rfl ⟨rfl,rfl,rfl⟩,λw2 _=> ?_⟩
  rw[Z03 z];simp[execOp,f,convert,run_underlying (Z1H e v d.1),run_underlying (Z1H e ht d.2)]
 ·rename_i l _ v ht q;simp only[Q9,Qs]at h;obtain⟨rfl,rfl⟩:=h;obtain⟨et,le,A,C,D⟩:=Z10 e v d.1;obtain rfl:=D rfl;have y:P.underlying et=some (.int .u8):=((e et _ _ C).und rfl).1 .u8 rfl;refine⟨.string (Z3A l),Z0z rfl ⟨rfl,rfl,rfl⟩,λw2 H=> ?_⟩
  rw[Z03 z];rcases Z7K I q H with⟨f,p⟩ | ⟨B,cap,f,m⟩
  ·subst p;simp[execOp,f,convert,run_underlying A,run_underlying (Z1H e ht d.2),run_underlying y,Conv.bytesToString,Z3A];rfl
  ·rcases m with p | ⟨b,off,rfl,m⟩
   ·subst p;cases B with
    |none=>
     simp[execOp,f,convert,run_underlying A,run_underlying (Z1H e ht d.2),run_underlying y,Conv.bytesToString,Z3A];rfl
    |some B=>
     have:=run_bytesToString (P:=P) w2 B 0 cap [] (by simp[loadCells,loadCellsFrom])
     simp only[YY]at this;simp[execOp,f,convert,run_underlying A,run_underlying (Z1H e ht d.2),run_underlying y,this,Z3A];rfl
   ·have r:=run_loadCells (P:=P) w2 ⟨b,off,none⟩ l.length (λj=> .int .u8 (l.getD j 0)) (λj E=>by
     rw[m j E,Qc,Qn E];rfl)
    have u:((List.range l.length).map λj=>Value.int .u8 (l.getD j 0))=l.map (Value.int .u8):=by
     apply Y0
     ·simp
     ·intro i J F;simp only[Xn,List.getElem_range];rw[Qc,Qn (by simpa using F)];rfl
    rw[u]at r;have:=run_bytesToString (P:=P) w2 ⟨b,off,none⟩ l.length cap l r;rw[Z8i]at this;simp[execOp,f,convert,run_underlying A,run_underlying (Z1H e ht d.2),run_underlying y,this,Z3A]
 ·cases h
theorem Z3p (I:Inv W0 M σ a w G xs){x:Operand}(k:o.op= .nilCheck x)(h:Z0l tys σ o.op=some (g,tv)):Z0N P σ a w G o tv:=by
 rw[k]at h;simp only[Z0l]at h;have d:=Z0v I x;split at h
 ·rename_i p e;rw[e]at d;have d:=d (by simp)
  split at h
  ·rename_i m;simp only[Q9,Qs]at h;obtain⟨rfl,rfl⟩:=h;obtain⟨u,n⟩:=Option.isSome_iff_exists.1 m;obtain⟨cs,b,l,j⟩:=d.2.2.2.some n;refine⟨a.eval x,d,λw2=> ?_⟩
   rw[Z03 k];simp[execOp,j]
  ·cases h
 ·rename_i v t e;rw[e]at d;have d:=d (by simp)
  simp only[Q9,Qs]at h;obtain⟨rfl,rfl⟩:=h;have i:=d;obtain⟨_,_,b,off,cs,j,_⟩:=i;refine⟨a.eval x,d,λw2=> ?_⟩
  rw[Z03 k];simp[execOp,j]
 ·rename_i p e;rw[e]at d;have d:=d (by simp)
  split at h
  ·rename_i m;simp only[Q9,Qs]at h;obtain⟨rfl,rfl⟩:=h;obtain⟨u,n⟩:=Option.isSome_iff_exists.1 m;obtain⟨cs,b,l,j⟩:=d.2.some n;refine⟨a.eval x,d,λw2=> ?_⟩
   rw[Z03 k];simp[execOp,j]
  ·cases h
 ·rename_i f y e;rw[e]at d;have d:=d (by simp)
  simp only[Q9,Qs]at h;obtain⟨rfl,rfl⟩:=h;have i:=d;obtain⟨_,vs,j,_⟩:=i;refine⟨a.eval x,d,λw2=> ?_⟩
  rw[Z03 k];simp[execOp,j]
 ·rename_i r τ p e;rw[e]at d;have d:=d (by simp)
  simp only[Q9,Qs]at h;obtain⟨rfl,rfl⟩:=h;have i:=d;obtain⟨_,_,b,q,z,j,_⟩:=i;refine⟨a.eval x,d,λw2=> ?_⟩
  rw[Z03 k];simp[execOp,j]
 ·rename_i f A v e;rw[e]at d;have d:=d (by simp)
  simp only[Q9,Qs]at h;obtain⟨rfl,rfl⟩:=h;have i:=d;obtain⟨_,us,j,_⟩:=i;refine⟨a.eval x,d,λw2=> ?_⟩
  rw[Z03 k];simp[execOp,j]
 ·cases h
theorem Z7y (C:Z0e P tys)(I:Inv W0 M σ a w G xs){c:Call}(q:o.op= .call c)(h:Z0l tys σ o.op=some (g,tv)):Z0N P σ a w G o tv:=by
 rw[q]at h;simp only[Z0l]at h;split at h
 ·rename_i x t d b i;have p:c.args= #[x]:=by cases f:c.args;rw[f]at b;simp at b;rw[b]
  have r:c.argTypes= #[t]:=by cases f:c.argTypes;rw[f]at i;simp at i;rw[i]
  split at h
  ·rename_i s _ ht v;split at h
   ·cases h
   rename_i j;simp only[Q9,Qs]at h;obtain⟨rfl,rfl⟩:=h;have z:=Z25 I v;refine⟨.int .i64 s.size,Z0z rfl ⟨rfl,rfl,rfl⟩,λw2=> ?_⟩
   rw[Z03 q];simp[execOp,resolve,d,p,r,z,invoke,builtin,Builtin.len_,run_underlying (Z1H C ht (by simpa using j)),goInt]
  ·rename_i H e l _ ht v;split at h
   ·cases h
   rename_i j;simp only[Q9,Qs]at h;obtain⟨rfl,rfl⟩:=h;obtain⟨F,cap,z,_⟩:=Z8s I v;obtain⟨et,le,D,_,_⟩:=Z10 C ht (by simpa using j)
   refine⟨.int .i64 (List.length (α:=El e) l),Z0z rfl ⟨rfl,rfl,rfl⟩,λw2=> ?_⟩
   rw[Z03 q];simp[execOp,resolve,d,p,r,z,invoke,builtin,Builtin.len_,run_underlying D,goInt]
  ·cases h
 ·rename_i x y d b;have p:c.args= #[x,y]:=by cases f:c.args;rw[f]at b;simp at b;rw[b]
  split at h
  ·rename_i k m _ E n _ A B;split at h
   ·rename_i u;subst u;simp only[Q9,Qs]at h;obtain⟨rfl,rfl⟩:=h;refine⟨.int k (mxI m n),Z0z rfl ⟨rfl,rfl,rfl⟩,λw2=> ?_⟩
    rw[Z03 q];simp[execOp,resolve,d,p,Z0P I A,Z0P I B,invoke,builtin,Builtin.max_,Builtin.max2,mxI]
   ·cases h
  ·cases h
 ·rename_i x y d b;have p:c.args= #[x,y]:=by cases f:c.args;rw[f]at b;simp at b;rw[b]
  split at h
  ·rename_i k m _ E n _ A B;split at h
   ·rename_i u;subst u;simp only[Q9,Qs]at h;obtain⟨rfl,rfl⟩:=h;refine⟨.int k (mnI m n),Z0z rfl ⟨rfl,rfl,rfl⟩,λw2=> ?_⟩
    rw[Z03 q];simp[execOp,resolve,d,p,Z0P I A,Z0P I B,invoke,builtin,Builtin.min_,Builtin.min2,mnI]
   ·cases h
  ·cases h
 ·cases h
end
end Go.PI
namespace Go.PI
section
variable {W0:Base}{M:Nat->Prop}{σ:State}{a:Act}{w:World}{G:Ghost}{xs:List Nat}{P:Program}{tys:List (TypeId×Ty×List TypeId)}{o:Oper}{g:Bool}{tv:TV}
theorem Z3N (I:Inv W0 M σ a w G xs){x:Operand}{v:TVal}{n:Int}(h:σ.look x=some v)(b:Z5l v=some n):∃k,a.eval x= .int k n:=by
 unfold Z5l at b;split at b
 ·cases b;exact⟨_,Z0P I h⟩
 ·cases b;exact⟨_,Z0P I h⟩
 ·cases b
theorem Z3O (I:Inv W0 M σ a w G xs){x:Option Operand}{d n:Int}(h:Z5m σ x d=some n):(x.map a.eval=none/\n=d)\/∃k,x.map a.eval=some (.int k n):=by
 unfold Z5m at h;split at h
 ·cases h;exact .inl ⟨rfl,rfl⟩
 ·split at h
  ·rename_i o v e;obtain⟨k,b⟩:=Z3N I e h;exact .inr ⟨k,by simp[b]⟩
  ·cases h
theorem Z6b {b:Bool}{len cap:Nat}{l e:Option Value}{i j:Int}(h:(l=none/\i=0)\/∃k,l=some (.int k i))(d:(e=none/\j=(len:Int))\/∃k,e=some (.int k j))
  (r:0<=i) (u:i<=j) (v:j<=(len:Int)) (y:len<=cap) (w2:World):(Instr.sliceBounds b len cap l e none).run P w2= .ok (i.toNat,j.toNat,cap) w2:=by
 have m:0<=j/\j<=(cap:Int):=by omega
 have f:0<=i/\i<=((j.toNat:Nat):Int):=by omega
 have p:0<=j:=by omega
 have q:j<=(cap:Int):=by omega
 have n:i<=((j.toNat:Nat):Int):=by omega
 rcases h with⟨rfl,rfl⟩ | ⟨k,rfl⟩<;>rcases d with⟨rfl,rfl⟩ | ⟨z,rfl⟩
 ·simp[Instr.sliceBounds]
 ·simp only[Instr.sliceBounds,Instr.sliceBound,asIntOf,Sem.run_bind,Sem.run_pure,Result.andThen_ok];rw[QM m];simp
 ·have:0<=i/\i<=(len:Int):=by omega
  simp only[Instr.sliceBounds,Instr.sliceBound,asIntOf,Sem.run_bind,Sem.run_pure,Result.andThen_ok];rw[QM this];simp
 ·simp only[Instr.sliceBounds,Instr.sliceBound,asIntOf,Sem.run_bind,Sem.run_pure,Result.andThen_ok];rw[QM m];simp only[Sem.run_pure,Result.andThen_ok];rw[QM f];simp
theorem Z5k (b o n:Nat):(⟨b,o,none⟩:Addr).add n=⟨b,o+n,none⟩:=by unfold Addr.add;split<;>simp_all
theorem Z76 {i j:Int}{n:Nat}(h:Z8d i j n=true):0<=i/\i<=j/\j<=(n:Int):=by simpa[Z8d]using h
theorem Z5n {i:Int}{n:Nat}(h:inb i n=true):0<=i/\i<(n:Int):=by simpa[inb]using h
theorem Z8r {x:Operand}{v:TVal}(h:σ.look x=some v):∀t∈v.tg,t.own=false:=by
 unfold State.look at h;split at h
 ·rename_i u b;cases h;unfold State.peek at b;split at b
  ·split at b
   ·rename_i t j f;split at b
    ·cases b
    ·rename_i e;cases b;intro t ht;cases i:t.own with
     |false=>rfl
     |true=>exact absurd (Yn.2 ⟨t,ht,i⟩) e
   ·rename_i t d;exact absurd b (d v)
  all_goals first | (cases b;simp[Z0y];done) | cases b
 ·rename_i p ag b;obtain⟨u,_,rfl⟩:=Qm.1 h;intro t ht;simp only[TVal.alias,X6]at ht;obtain⟨t',_,rfl⟩:=ht;cases t'<;>rfl
 ·cases h
theorem Z6e (L:Z0e P tys)(I:Inv W0 M σ a w G xs){t:TypeId}{x:Operand}{lo hi mx:Option Operand}(q:o.op= .slice t x lo hi mx)(h:Z0l tys σ o.op=some (g,tv))(hg:g=true) :
  Z0N P σ a w G o tv:=by
 rw[q]at h;cases mx with
 |some m=>simp[Z0l]at h
 |none=>
 simp only[Z0l]at h;split at h
 ·rename_i s tg ht D;split at h
  ·cases h
  rename_i r;split at h
  ·rename_i i j u v;simp only[Q9,Qs]at h;obtain⟨n,rfl⟩:=h;rw[hg]at n;obtain⟨J,K,y⟩:=Z76 n;have hv:=Z25 I D;refine⟨.string (s.extract i.toNat j.toNat),Z0z rfl ⟨rfl,rfl,rfl⟩,λw2=> ?_⟩
   rw[Z03 q];have Q:=Z6b (P:=P) (b:=false) (cap:=s.size) (Z3O I u) (Z3O I v) J K y (Qq _) w2;simp only[execOp,hv,Instr.sliceAt,Instr.slice,Sem.run_bind,run_underlying (Z1H L ht (by simpa using r)),Result.andThen_ok,Option.map_none,Option.isSome_none,Xj,XI,Sem.run_pure,Q]
  ·cases h
 ·rename_i f e l tg ht D;split at h
  ·rename_i hc;obtain⟨rfl,r⟩:=hc;split at h
   ·rename_i i j u v;simp only[Q9,Qs]at h;obtain⟨n,rfl⟩:=h;rw[hg]at n;obtain⟨J,K,y⟩:=Z76 n;have hr:Rp w G.F G.St G.Al (.slice f) tg (Z02 (a.eval x)) l []:=(Z1p I D).1;have X:Z0f false (a.eval x):=(Z1p I D).2;obtain⟨t',E,cap,rfl,B,V,hh⟩:=hr;rw[Z0q X]at B;have hv:a.eval x= .slice E (List.length (α:=El f) l) cap:=by simpa using B
    obtain⟨et,le,hu,T,_⟩:=Z10 L ht r;obtain⟨inf,z,C,Y,_⟩:=(L et _ _ T).info;have d:(sub (α:=El f) l i j).length=j.toNat-i.toNat:=by
     unfold sub;simp;omega
    refine⟨.slice (if cap=i.toNat then E else E.map (·.add (i.toNat * size f))) (j.toNat-i.toNat) (cap-i.toNat),⟨rfl,(show Rp w G.F G.St G.Al (.slice f) [t'] _ (sub (α:=El f) l i j) [] from ?_)⟩,λw2=> ?_⟩
    ·rw[Z0q rfl];rw[<-d];refine⟨t',_,_,rfl,rfl,by rw[d];omega,?_⟩
     have p:t'.own=false:=by exact Z8r (σ:=σ) D t' (by simp)
     refine .inr (.inr ⟨p,rfl,?_⟩);rcases hh with⟨q,_⟩ | ⟨q,_⟩ | ⟨_,_,hx⟩
     ·rw[p]at q;cases q
     ·rw[p]at q;cases q
     ·by_cases he:j.toNat-i.toNat=0
      ·left;exact Qv.1 (by rw[d];exact he)
      ·rcases hx with hx | ⟨b,off,rfl,Z,hF,U⟩
       ·rw[hx]at y;simp at y;omega
       ·right;have R:¬ cap=i.toNat:=by omega
        refine⟨b,off+i.toNat * size f,by rw[QN R];simp[Z5k],Z,?_,λk hk=> ?_⟩
        ·rw[d];have:i.toNat * size f+(j.toNat-i.toNat) * size f<=List.length (α:=El f) l * size f:=by
          rw[<-QC];exact Qt _ (by omega)
         omega
        ·rw[d]at hk;obtain⟨H,A,W⟩:=U (i.toNat+k) (by omega)
         refine⟨H,?_,?_⟩
         ·rw[QC]at A;rw[Nat.add_assoc];exact A
         ·have:List.get (α:=El f) (sub (α:=El f) l i j) ⟨k,by rw[d];exact hk⟩=List.get (α:=El f) l ⟨i.toNat+k,by omega⟩:=by
           unfold sub;simp
          rw[this];exact W
    ·rw[Z03 q];have Q:=Z6b (P:=P) (b:=true) (cap:=cap) (Z3O I u) (Z3O I v) J K y V w2;simp only[execOp,hv,Instr.sliceAt,Instr.slice,Sem.run_bind,run_underlying hu,Result.andThen_ok,Option.map_none,Sem.run_pure,Q,sizeOf,typeInfo,run_program,C,Y]
   ·cases h
  ·cases h
 ·cases h
end
end Go.PI
namespace Go.PI
theorem Z2H:(p q:List Step)->Z08 (p++q)=(Z08 p&&Z08 q)
 | [],q=>by simp[Z08]
 |.fst::p,q=>by simp[Z08,Z2H p q]
 |.snd::p,q=>by simp[Z08,Z2H p q]
 |.idx _::p,q=>by simp[Z08]
theorem Z2O:(n i:Nat)->Z08 (Z0a n i)=true
 | 0,_=>rfl
 | 1,_=>rfl
 |n+2,0=>rfl
 |n+2,i+1=>by simp only[Z0a,Z08];exact Z2O (n+1) i
theorem Z6l:{p:List Step}->{τ:Ty}->{x:El τ}->{tg:List Tag}->{u:TVal}->Z04 τ x tg p=some u->u.ag=false
 | [],τ,x,tg,u,h=>by cases τ<;>(simp only[Z04,Q9]at h;subst h;rfl)
 |.fst::p,.pair a b,x,tg,u,h=>Z6l (p:=p) h
 |.snd::p,.pair a b,x,tg,u,h=>Z6l (p:=p) h
 |.idx i::p,.slice e,x,tg,u,h=>Z6l (p:=p) h
 |.fst::_,.int _,_,_,_,h=>by simp[Z04]at h
 |.fst::_,.bool,_,_,_,h=>by simp[Z04]at h
 |.fst::_,.str,_,_,_,h=>by simp[Z04]at h
 |.fst::_,.unit,_,_,_,h=>by simp[Z04]at h
 |.fst::_,.slice _,_,_,_,h=>by simp[Z04]at h
 |.snd::_,.int _,_,_,_,h=>by simp[Z04]at h
 |.snd::_,.bool,_,_,_,h=>by simp[Z04]at h
 |.snd::_,.str,_,_,_,h=>by simp[Z04]at h
 |.snd::_,.unit,_,_,_,h=>by simp[Z04]at h
 |.snd::_,.slice _,_,_,_,h=>by simp[Z04]at h
 |.idx _::_,.int _,_,_,_,h=>by simp[Z04]at h
 |.idx _::_,.bool,_,_,_,h=>by simp[Z04]at h
 |.idx _::_,.str,_,_,_,h=>by simp[Z04]at h
 |.idx _::_,.unit,_,_,_,h=>by simp[Z04]at h
 |.idx _::_,.pair _ _,_,_,_,h=>by simp[Z04]at h
theorem Z3H {τ:Ty}{x:El τ}{tg:List Tag}:Z04 τ x tg []=some ⟨τ,false,x,tg⟩:=by cases τ<;>rfl
theorem Z31:{p q:List Step}->{τ:Ty}->{x:El τ}->{tg:List Tag}->{u:TVal}->Z04 τ x tg p=some u->Z04 τ x tg (p++q)=Z04 u.τ u.x u.tg q
 | [],q,τ,x,tg,u,h=>by rw[Z3H]at h;cases h;rfl
 |.fst::p,q,.pair a b,x,tg,u,h=>Z31 (p:=p) h
 |.snd::p,q,.pair a b,x,tg,u,h=>Z31 (p:=p) h
 |.idx i::p,q,.slice e,x,tg,u,h=>Z31 (p:=p) h
 |.fst::_,_,.int _,_,_,_,h=>by simp[Z04]at h
 |.fst::_,_,.bool,_,_,_,h=>by simp[Z04]at h
 |.fst::_,_,.str,_,_,_,h=>by simp[Z04]at h
 |.fst::_,_,.unit,_,_,_,h=>by simp[Z04]at h
 |.fst::_,_,.slice _,_,_,_,h=>by simp[Z04]at h
 |.snd::_,_,.int _,_,_,_,h=>by simp[Z04]at h
 |.snd::_,_,.bool,_,_,_,h=>by simp[Z04]at h
 |.snd::_,_,.str,_,_,_,h=>by simp[Z04]at h
 |.snd::_,_,.unit,_,_,_,h=>by simp[Z04]at h
 |.snd::_,_,.slice _,_,_,_,h=>by simp[Z04]at h
 |.idx _::_,_,.int _,_,_,_,h=>by simp[Z04]at h
 |.idx _::_,_,.bool,_,_,_,h=>by simp[Z04]at h
 |.idx _::_,_,.str,_,_,_,h=>by simp[Z04]at h
 |.idx _::_,_,.unit,_,_,_,h=>by simp[Z04]at h
 |.idx _::_,_,.pair _ _,_,_,_,h=>by simp[Z04]at h
theorem Z34 {w:World}:{p q:List Step}->{τ:Ty}->{cs j:List Value}->{base d:Option (Nat×Nat)}->{x:El τ}->{tg:List Tag}->{u:TVal} ->
  Z00 w τ cs base p=some (j,d)->Z04 τ x tg p=some u->Z00 w τ cs base (p++q)=Z00 w u.τ j d q
 | [],q,τ,cs,j,base,d,x,tg,u,f,k=>by
  rw[Z3H]at k;cases k;rw[Z0O]at f;cases f;rfl
 |.fst::p,q,.pair a b,cs,j,base,d,x,tg,u,f,k=>Z34 (p:=p) (τ:=a) f k
 |.snd::p,q,.pair a b,cs,j,base,d,x,tg,u,f,k=>Z34 (p:=p) (τ:=b) f k
 |.idx i::p,q,.slice e,cs,j,base,d,x,tg,u,f,k=>by
  simp only[QL,Z00]at f ⊢;split at f
  ·rename_i b o len cap;split at f
   ·rename_i n;split at f
    ·rename_i l m;simp only[n,XH];exact Z34 (p:=p) f k
    ·cases f
   ·cases f
  ·cases f
 |.fst::_,_,.int _,_,_,_,_,_,_,_,_,h=>by simp[Z04]at h
 |.fst::_,_,.bool,_,_,_,_,_,_,_,_,h=>by simp[Z04]at h
 |.fst::_,_,.str,_,_,_,_,_,_,_,_,h=>by simp[Z04]at h
 |.fst::_,_,.unit,_,_,_,_,_,_,_,_,h=>by simp[Z04]at h
 |.fst::_,_,.slice _,_,_,_,_,_,_,_,_,h=>by simp[Z04]at h
 |.snd::_,_,.int _,_,_,_,_,_,_,_,_,h=>by simp[Z04]at h
 |.snd::_,_,.bool,_,_,_,_,_,_,_,_,h=>by simp[Z04]at h
 |.snd::_,_,.str,_,_,_,_,_,_,_,_,h=>by simp[Z04]at h
 |.snd::_,_,.unit,_,_,_,_,_,_,_,_,h=>by simp[Z04]at h
 |.snd::_,_,.slice _,_,_,_,_,_,_,_,_,h=>by simp[Z04]at h
 |.idx _::_,_,.int _,_,_,_,_,_,_,_,_,h=>by simp[Z04]at h
 |.idx _::_,_,.bool,_,_,_,_,_,_,_,_,h=>by simp[Z04]at h
 |.idx _::_,_,.str,_,_,_,_,_,_,_,_,h=>by simp[Z04]at h
 |.idx _::_,_,.unit,_,_,_,_,_,_,_,_,h=>by simp[Z04]at h
 |.idx _::_,_,.pair _ _,_,_,_,_,_,_,_,_,h=>by simp[Z04]at h
theorem Z49:{p:List Step}->{τ d:Ty}->Z0d τ p=some d->∀q,Z0d τ (p++q)=Z0d d q
 | [],τ,d,h,q=>by rw[Z1F]at h;cases h;rfl
 |.fst::p,.pair a b,d,h,q=>Z49 (p:=p) (τ:=a) h q
 |.snd::p,.pair a b,d,h,q=>Z49 (p:=p) (τ:=b) h q
 |.idx _::_,.pair _ _,_,h,q=>by simp[Z0d]at h
 |s::_,.int _,_,h,q=>by cases s<;>simp[Z0d]at h
 |s::_,.bool,_,h,q=>by cases s<;>simp[Z0d]at h
 |s::_,.str,_,h,q=>by cases s<;>simp[Z0d]at h
 |s::_,.unit,_,h,q=>by cases s<;>simp[Z0d]at h
 |s::_,.slice _,_,h,q=>by cases s<;>simp[Z0d]at h
theorem Z46:{p:List Step}->{τ d:Ty}->Z0d τ p=some d->∀q,Z0g τ (p++q)=Z0g τ p+Z0g d q
 | [],τ,d,h,q=>by rw[Z1F]at h;cases h;rw[Z4C];simp
 |.fst::p,.pair a b,d,h,q=>Z46 (p:=p) (τ:=a) h q
 |.snd::p,.pair a b,d,h,q=>by
  have:=Z46 (p:=p) (τ:=b) h q;simp only[QL,Z0g,this,Nat.add_assoc]
 |.idx _::_,.pair _ _,_,h,q=>by simp[Z0d]at h
 |s::_,.int _,_,h,q=>by cases s<;>simp[Z0d]at h
 |s::_,.bool,_,h,q=>by cases s<;>simp[Z0d]at h
 |s::_,.str,_,h,q=>by cases s<;>simp[Z0d]at h
 |s::_,.unit,_,h,q=>by cases s<;>simp[Z0d]at h
 |s::_,.slice _,_,h,q=>by cases s<;>simp[Z0d]at h
theorem Z73 {w:World}{b o n i m:Nat}{cs:List Value}(h:Z05 w b o n=some cs)(d:i+m<=n):Z05 w b (o+i) m=some ((cs.drop i).take m):=by
 unfold Z05 at *;split at h
 ·split at h
  ·cases h;rw[QM (by omega),Yz,X9,List.take_take]
   congr 2;omega
  ·cases h
 ·cases h
theorem Z3b:{q:List Step}->{τ d:Ty}->{x:El τ}->{tg:List Tag}->Z0d τ q=some d->∃u,Z04 τ x tg q=some u/\u.τ=d
 | [],τ,d,x,tg,h=>by rw[Z1F]at h;cases h;exact⟨_,Z3H,rfl⟩
 |.fst::p,.pair a b,d,x,tg,h=>Z3b (q:=p) (τ:=a) h
 |.snd::p,.pair a b,d,x,tg,h=>Z3b (q:=p) (τ:=b) h
 |.idx _::_,.int _,_,_,_,h=>by simp[Z0d]at h
 |.idx _::_,.bool,_,_,_,h=>by simp[Z0d]at h
 |.idx _::_,.str,_,_,_,h=>by simp[Z0d]at h
 |.idx _::_,.unit,_,_,_,h=>by simp[Z0d]at h
 |.idx _::_,.slice _,_,_,_,h=>by simp[Z0d]at h
 |.idx _::_,.pair _ _,_,_,_,h=>by simp[Z0d]at h
 |.fst::_,.int _,_,_,_,h=>by simp[Z0d]at h
 |.fst::_,.bool,_,_,_,h=>by simp[Z0d]at h
 |.fst::_,.str,_,_,_,h=>by simp[Z0d]at h
 |.fst::_,.unit,_,_,_,h=>by simp[Z0d]at h
 |.fst::_,.slice _,_,_,_,h=>by simp[Z0d]at h
 |.snd::_,.int _,_,_,_,h=>by simp[Z0d]at h
 |.snd::_,.bool,_,_,_,h=>by simp[Z0d]at h
 |.snd::_,.str,_,_,_,h=>by simp[Z0d]at h
 |.snd::_,.unit,_,_,_,h=>by simp[Z0d]at h
 |.snd::_,.slice _,_,_,_,h=>by simp[Z0d]at h
section
variable {W0:Base}{M:Nat->Prop}{σ:State}{a:Act}{w:World}{G:Ghost}{xs:List Nat}{P:Program}{tys:List (TypeId×Ty×List TypeId)}{o:Oper}{g:Bool}{tv:TV}
theorem Z6L (d:Z0e P tys){t:TypeId}{τ:Ty}{l:List TypeId}(h:Z0o tys t=some (τ,l))(w2:World):(isAgg t).run P w2= .ok (!l.isEmpty) w2:=by
 cases l with
 |cons c l=>
  obtain⟨u,r,_⟩:=(d t _ _ h).str (by simp)
  simp[isAgg,run_underlying r]
 |nil=>
  obtain⟨f,i,j,m,n,p⟩:=(d t _ _ h).und rfl;cases τ with
  |int k=>simp[isAgg,run_underlying (f k rfl)]
  |bool=>simp[isAgg,run_underlying (i rfl)]
  |str=>simp[isAgg,run_underlying (j rfl)]
  |unit=>exact absurd rfl n
  |slice e=>obtain⟨et,q,_⟩:=m e rfl;simp[isAgg,run_underlying q]
  |pair a b=>exact absurd rfl (p a b)
theorem Z1L (n:Z0e P tys){t:TypeId}{τ:Ty}{i:Nat}{q:List Step}(e:Z4d tys t i=some q)(ht:tyOf tys t=some τ) :
  ∃j f h k b,P.underlying t=some (.struct j)/\j[i]? = some f/\f.offset=Z0g τ q/\Z0d τ q=some h/\Z0o tys f.type=some (h,k)/\P.info? f.type=some b/\b.size=size h/\size h≠0 /\
   Z08 q=true/\Z2w tys t i= !k.isEmpty:=by
 obtain⟨l,d,E⟩:=Z0Q ht;unfold Z4d at e;rw[d]at e;simp only[]at e;split at e
 ·rename_i p;cases e;have H:l≠[]:=by rintro rfl;simp at p
  obtain⟨j,I,r,F,_⟩:=(n t _ _ d).str H;obtain⟨f,h,k,u,v,y,A,m,B,_⟩:=(F i p).out;obtain⟨b,z,C,D,_⟩:=(n _ _ _ m).info;refine⟨j,f,h,k,b,I,u,y,A,m,C,D,B,Z2O _ _,?_⟩;unfold Z2w;rw[d];simp only[];rw[<-v];simp[agOf,m]
 ·cases e
theorem Z0A.ext {p:Place}{u:TVal}{cs f:List Value}{base d:Option (Nat×Nat)}{q:List Step}(m:σ.getAt p=some u)(h:Z0A σ G a w p cs base)
  (n:Z00 w u.τ cs base q=some (f,d)):Z0A σ G a w { p with path:=p.path++q } f d:=by
 obtain⟨c,k,i⟩:=Z0B m;obtain⟨τ,l,b,e,r,j⟩:=h;have:τ=c.τ:=by rw[State.ct,k]at e;simpa using e.symm
 subst this;refine⟨c.τ,l,b,e,r,?_⟩;rw[Z34 j i];exact n
theorem Z9U {p:Place}{u:TVal}{q:List Step}(e:σ.getAt p=some u):σ.getAt { p with path:=p.path++q }=Z04 u.τ u.x u.tg q:=by
 obtain⟨c,d,b⟩:=Z0B e;show ((σ.content p).bind λv=>Z04 v.τ v.x v.tg (p.path++q))=_
 rw[d];exact Z31 b
theorem Z36 (l:Z0e P tys){t:TypeId}{τ:Ty}{i:Nat}{q:List Step}(n:Z4d tys t i=some q)(ht:tyOf tys t=some τ)(b o:Nat)(w2:World) :
  (Instr.fieldAt t (.pointer (some ⟨b,o,none⟩)) i).run P w2= .ok (.pointer (some ⟨b,o+Z0g τ q,none⟩)) w2:=by
 obtain⟨r,f,v,u,k,p,m,e,_,_,d,j,h,_⟩:=Z1L l n ht;have:¬ (k.size=0):=by rw[j];exact h
 simp[Instr.fieldAt,run_underlying p,m,Instr.sureAddr,fieldPlace,sizeOf,typeInfo,d,this,Z5k,e]
theorem Z4Y:{q:List Step}->{τ:Ty}->{x:El τ}->{tg:List Tag}->{u:TVal}->Z04 τ x tg q=some u->Z08 q=true->∀t∈u.tg,t∈tg
 | [],τ,x,tg,u,h,_=>by rw[Z3H]at h;cases h;exact λt ht=>ht
 |.fst::p,.pair a b,x,tg,u,h,d=>λt ht=>X7 (Z4Y (q:=p) (τ:=a) h d t ht)
 |.snd::p,.pair a b,x,tg,u,h,d=>λt ht=>Xc (Z4Y (q:=p) (τ:=b) h d t ht)
 |.idx _::_,_,_,_,_,_,d=>by simp[Z08]at d
 |.fst::_,.int _,_,_,_,h,_=>by simp[Z04]at h
 |.fst::_,.bool,_,_,_,h,_=>by simp[Z04]at h
 |.fst::_,.str,_,_,_,h,_=>by simp[Z04]at h
 |.fst::_,.unit,_,_,_,h,_=>by simp[Z04]at h
 |.fst::_,.slice _,_,_,_,h,_=>by simp[Z04]at h
 |.snd::_,.int _,_,_,_,h,_=>by simp[Z04]at h
 |.snd::_,.bool,_,_,_,h,_=>by simp[Z04]at h
 |.snd::_,.str,_,_,_,h,_=>by simp[Z04]at h
 |.snd::_,.unit,_,_,_,h,_=>by simp[Z04]at h
 |.snd::_,.slice _,_,_,_,h,_=>by simp[Z04]at h
theorem Z2V (D:Z0e P tys)(I:Inv W0 M σ a w G xs){t:TypeId}{x:Operand}{i:Nat}(Y:o.op= .fieldAddr t x i)(h:Z0l tys σ o.op=some (g,tv)):Z0N P σ a w G o tv:=by
 rw[Y]at h;simp only[Z0l]at h;have F:=Z0v I x;split at h
 ·rename_i q p B j;rw[j]at F;obtain⟨_,hbx,H,Q⟩:=F (by simp)
  split at h
  ·rename_i u T;split at h
   ·rename_i ht;simp only[Q9,Qs]at h;obtain⟨rfl,rfl⟩:=h;obtain⟨cs,b,A,U⟩:=Q.some T;obtain⟨fs,f,τf,lf,V,C,hf,z,d,_,m,R,L,k,_⟩:=Z1L D B ht;obtain⟨n,y⟩:=Z0T (w:=w) (cs:=cs) (base:=some b) d (Z1K I T A).1;refine⟨.pointer (some ⟨b.1,b.2+Z0g u.τ q,none⟩),⟨rfl,hbx,by simp only[Z2H,H,k,Bool.and_self],.inr ⟨_,_,A.ext T n,rfl⟩⟩,λw2=> ?_⟩
    rw[Z03 Y];simp only[execOp,U,Sem.run_bind,Z36 D B ht,Result.andThen_ok,Sem.run_pure]
   ·cases h
  ·cases h
 ·rename_i q p B j;rw[j]at F;obtain⟨_,Q⟩:=F (by simp)
  split at h
  ·rename_i u T;split at h
   ·rename_i ht;simp only[Q9,Qs]at h;obtain⟨rfl,rfl⟩:=h;obtain⟨cs,b,A,U⟩:=Q.some T;obtain⟨fs,f,τf,lf,V,C,hf,z,d,_,m,R,L,k,_⟩:=Z1L D B ht;obtain⟨n,y⟩:=Z0T (w:=w) (cs:=cs) (base:=some b) d (Z1K I T A).1;refine⟨.pointer (some ⟨b.1,b.2+Z0g u.τ q,none⟩),⟨rfl,.inr ⟨_,_,A.ext T n,rfl⟩⟩,λw2=> ?_⟩
    rw[Z03 Y];simp only[execOp,U,Sem.run_bind,Z36 D B ht,Result.andThen_ok,Sem.run_pure]
   ·cases h
  ·cases h
 ·rename_i q v tg B j;rw[j]at F;obtain⟨_,hto,b,off,cs,U,e,htb,hF,hN,hr⟩:=F (by simp)
  split at h
  ·rename_i ht;obtain⟨u,J,he⟩:=Qm.1 h;simp only[Qs]at he;obtain⟨rfl,rfl⟩:=he;obtain⟨fs,f,τf,lf,V,C,hf,z,d,_,m,R,L,k,_⟩:=Z1L D B ht;obtain⟨n,y⟩:=Z0T (w:=w) (cs:=cs) (base:=(none:Option (Nat×Nat))) d hr.len.1;obtain⟨u',Z,aa⟩:=Z3b (x:=v.x) (tg:=v.tg) d;rw[J]at Z;cases Z;obtain⟨W,hru,hfp⟩:=hr.get n J;have X:W=[]:=by cases W with | nil=>rfl | cons c l=>exact absurd (hfp c (by simp)) (by simp)
   subst X;refine⟨.pointer (some ⟨b,off+Z0g v.τ q,none⟩),⟨rfl,hto,b,off+Z0g v.τ q,_,rfl,?_,htb,by rw[aa];omega,λhn=> ?_,hru⟩,λw2=> ?_⟩
   ·rw[aa];exact Z30 e y
   ·have:=hN hn;intro t' ht';exact this t' (Z4Y J k t' ht')
   ·rw[Z03 Y];simp only[execOp,U,Sem.run_bind,Z36 D B ht,Result.andThen_ok,Sem.run_pure]
  ·cases h
 ·rename_i q r τr p B j;rw[j]at F;obtain⟨_,H,b,off,τ2,U,d,hlr,e,hSt,hF⟩:=F (by simp)
  split at h
  ·rename_i ht;simp only[Q9,Qs]at h;obtain⟨rfl,rfl⟩:=h;rw[d]at ht;obtain⟨fs,f,τf,lf,V,C,hf,z,E,_,m,R,L,k,_⟩:=Z1L D B ht;have K:=Z1C e;obtain⟨_,y⟩:=Z0T (w:=w) (cs:=((Z02 (a.tmps.getD r undef)).drop (Z0g τr p)).take (size τ2)) (base:=none) E K;refine⟨.pointer (some ⟨b,off+Z0g τ2 q,none⟩),⟨rfl,by simp only[Z2H,H,k,Bool.and_self],b,off+Z0g τ2 q,τf,rfl,(Z49 d q).trans E,hlr,?_,hSt,by omega⟩,λw2=> ?_⟩
   ·rw[Z73 e y,Z46 d q,Yz,List.take_take,X9];congr 2;omega
   ·rw[Z03 Y];simp only[execOp,U,Sem.run_bind,Z36 D B ht,Result.andThen_ok,Sem.run_pure]
  ·cases h
 ·cases h
end
end Go.PI
namespace Go.PI
theorem Z4N (cs:Array Value)(i n:Nat):(cs.extract i (i+n)).toList=(cs.toList.drop i).take n:=by
 simp[Array.toList_extract,List.extract_eq_take_drop]
section
variable {W0:Base}{M:Nat->Prop}{σ:State}{a:Act}{w:World}{G:Ghost}{xs:List Nat}{P:Program}{tys:List (TypeId×Ty×List TypeId)}{o:Oper}{g:Bool}{tv:TV}
theorem Z1S (e:Z0e P tys){t:TypeId}{τ:Ty}(h:Z0o tys t=some (τ,[])):size τ=1:=by
 obtain⟨_,_,_,_,b,d⟩:=(e t _ _ h).und rfl;cases τ<;>first | rfl | (exact absurd rfl b) | (exact absurd rfl (d _ _))
theorem Z2T (b:Z0e P tys){t:TypeId}{τ:Ty}{l:List TypeId}(h:Z0o tys t=some (τ,l)){cs:Array Value}{off:Nat}(k:off+size τ<=cs.size)(w2:World) :
  (part t cs off).run P w2= .ok (Z0J (!l.isEmpty) ((cs.toList.drop off).take (size τ))) w2:=by
 obtain⟨j,z,f,i,_⟩:=(b t _ _ h).info;cases l with
 |cons c l=>
  simp only[part,Sem.run_bind,Z6L b h,Result.andThen_ok,List.isEmpty_cons,QQ,XH,sizeOf,typeInfo,run_program,f,Sem.run_pure,i,Z0J];congr 2;rw[<-Array.toList_inj];simp[Z4N]
 |nil=>
  have d:=Z1S b h;simp only[part,Sem.run_bind,Z6L b h,Result.andThen_ok,List.isEmpty_nil,Q4,Xj,XI,Z0J];have:off<cs.size:=by omega
  rw[Xp this];simp only[Sem.run_pure];congr 1;rw[d];have e:off<cs.toList.length:=by simpa using this
  rw[QJ e];simp
theorem Z6c (D:Z0e P tys)(I:Inv W0 M σ a w G xs){t:TypeId}{x:Operand}{i:Nat}(ho:o.op= .field t x i)(h:Z0l tys σ o.op=some (g,tv)):Z0N P σ a w G o tv:=by
 rw[ho]at h;simp only[Z0l]at h;have W:=Z0v I x;split at h
 ·rename_i q p hq C;rw[C]at W;obtain⟨_,e⟩:=W (by simp)
  split at h
  ·rename_i u hu;split at h
   ·rename_i ht;obtain⟨tv',hrt,H⟩:=Qm.1 h;simp only[Qs]at H;obtain⟨rfl,rfl⟩:=H;have e:∃cs base,Z0A σ G a w p cs base/\Z02 (a.eval x)=cs/\Z0f true (a.eval x):=by
     rcases e with hn | e
     ·obtain⟨c,Y,_⟩:=Z0B hu;rw[State.ct,Y]at hn;cases hn
     ·exact e
    obtain⟨cs,base,e,hvc,b,U⟩:=e;obtain⟨fs,f,V,lf,inf,n,z,m,r,j,L,hsz,hne,hqf,d⟩:=Z1L D hq ht;obtain⟨A,Q⟩:=Z1K I hu e;obtain⟨B,hle⟩:=Z0T (w:=w) (cs:=cs) (base:=base) r A;have v:cs=b.toList:=by rw[<-hvc,U];simp[Z02,Value.cells]
    have F:b.size=size u.τ:=by rw[<-A,v];simp
    have k:=Z1g (ag:=Z2w tys t i) (cs:=(cs.drop (Z0g u.τ q)).take (size V)) (λc Y=>Q c (Xc (X7 Y))) (λz=>by
     rw[d]at z;have hl:lf=[]:=by simpa using z
     subst hl;have:=Z1S D j;simp;omega)
    refine⟨Z0J (Z2w tys t i) ((cs.drop (Z0g u.τ q)).take (size V)),Z2y I hrt (e.ext hu B) k.1 k.2,λw2=> ?_⟩
    rw[Z03 ho];simp only[execOp,U,Instr.field,Sem.run_bind,run_underlying n,z,asAgg,Sem.run_pure,Result.andThen_ok,m,Z2T D j (cs:=b) (off:=Z0g u.τ q) (by omega) w2,d,v]
   ·cases h
  ·cases h
 ·rename_i q τ y tg hq C;rw[C]at W;obtain⟨⟨b,U⟩,X⟩:=W (by simp)
  split at h
  ·rename_i ht;obtain⟨u,K,H⟩:=Qm.1 h;simp only[Qs]at H;obtain⟨rfl,rfl⟩:=H;obtain⟨fs,f,V,lf,inf,n,z,m,r,j,L,hsz,hne,hqf,d⟩:=Z1L D hq ht;have v:Z02 (a.eval x)=b.toList:=by rw[U];simp[Z02,Value.cells]
   rw[v]at X;obtain⟨B,hle⟩:=Z0T (w:=w) (cs:=b.toList) (base:=(none:Option (Nat×Nat))) r X.len.1;obtain⟨u',T,hut⟩:=Z3b (x:=y) (tg:=tg) r;rw[K]at T;cases T;obtain⟨E,R,Z⟩:=X.get B K;have J:E=[]:=by cases E with | nil=>rfl | cons c l=>exact absurd (Z c (by simp)) (by simp)
   subst J;have F:b.size=size τ:=by have:=X.len.1;simpa using this
   have k:=Z1g (ag:=Z2w tys t i) (cs:=(b.toList.drop (Z0g τ q)).take (size V)) R.ones (λz=>by
     rw[d]at z;have hl:lf=[]:=by simpa using z
     subst hl;have:=Z1S D j;simp;omega)
   refine⟨Z0J (Z2w tys t i) ((b.toList.drop (Z0g τ q)).take (size V)),⟨k.2,by rw[k.1];exact R⟩,λw2=> ?_⟩
   rw[Z03 ho];simp only[execOp,U,Instr.field,Sem.run_bind,run_underlying n,z,asAgg,Sem.run_pure,Result.andThen_ok,m,Z2T D j (cs:=b) (off:=Z0g τ q) (by omega) w2,d]
  ·cases h
 ·cases h
theorem Z5B (l:Z0e P tys){t:TypeId}{e:Ty}(ht:tyOf tys t=some (.slice e))(f:agOf tys t=false){b off len cap:Nat}{k:IntKind}{n:Int}(h:inb n len=true)(w2:World) :
  (Instr.indexAt t (.slice (some ⟨b,off,none⟩) len cap) (.int k n)).run P w2= .ok (.pointer (some ⟨b,off+n.toNat * size e,none⟩)) w2:=by
 obtain⟨et,le,m,i,_⟩:=Z10 l ht f;obtain⟨p,z,d,j,_⟩:=(l et _ _ i).info;simp only[Instr.indexAt,asIntOf,Sem.run_bind,Sem.run_pure,Result.andThen_ok,run_underlying m,QM (Z5n h),sizeOf,typeInfo,run_program,d,j,Z5k]
theorem Z2W (hT:Z0e P tys)(I:Inv W0 M σ a w G xs){t:TypeId}{x i:Operand}(W:o.op= .indexAddr t x i)(h:Z0l tys σ o.op=some (g,tv))(hg:g=true):Z0N P σ a w G o tv:=by
 rw[W]at h;simp only[Z0l]at h;have Q:=Z0v I x;split at h
 ·rename_i f p nv ht C B;rw[C]at Q;obtain⟨_,m⟩:=Q (by simp)
  split at h
  ·rename_i e ag' l tg n hu H;split at h
   ·rename_i J;obtain⟨rfl,A⟩:=J;simp only[Q9,Qs]at h;obtain⟨r,rfl⟩:=h;rw[hg]at r;obtain⟨h0,h1⟩:=Z5n r;have m:∃cs base,Z0A σ G a w p cs base/\Z02 (a.eval x)=cs/\Z0f false (a.eval x):=by
     rcases m with H | m
     ·obtain⟨c,J,_⟩:=Z0B hu;rw[State.ct,J]at H;cases H
     ·exact m
    obtain⟨cs,base,m,E,z⟩:=m;obtain⟨fp,D⟩:=Z2t I hu m;have D:Rp w G.F G.St G.Al (.slice f) tg cs l fp:=D;obtain⟨t',L,cap,rfl,v,V,T⟩:=D;have hv:a.eval x= .slice L (List.length (α:=El f) l) cap:=by
     rw[Z0q z]at E;rw[v]at E;simpa using E
    obtain⟨k,U⟩:=Z3N I B H;have d:n.toNat<List.length (α:=El f) l:=by omega
    have R:∃b off,L=some ⟨b,off,none⟩/\∃j,Z05 w b (off+n.toNat * size f) (size f)=some j:=by
     rcases T with⟨_,_,u,_⟩ | ⟨_,b,off,fps,rfl,_,_,_,_,_,y⟩ | ⟨_,_,u⟩
     ·rw[u]at d;simp at d
     ·obtain⟨j,q,_⟩:=y n.toNat d;exact⟨b,off,rfl,j,q⟩
     ·rcases u with u | ⟨b,off,rfl,_,_,y⟩
      ·rw[u]at d;simp at d
      ·obtain⟨j,q,_⟩:=y n.toNat d;exact⟨b,off,rfl,j,q⟩
    obtain⟨b,off,rfl,j,q⟩:=R;refine⟨.pointer (some ⟨b,off+n.toNat * size f,none⟩),⟨rfl,.inr ⟨j,(b,off+n.toNat * size f),m.ext hu ?_,rfl⟩⟩,λw2=> ?_⟩
    ·rw[v];simp only[Z00,d,XH,q,Z0O]
    ·rw[Z03 W];simp only[execOp,hv,U,Sem.run_bind,Z5B hT ht A r,Result.andThen_ok,Sem.run_pure]
   ·cases h
  ·cases h
 ·rename_i f e l tg nv ht C B;rw[C]at Q;split at h
  ·rename_i n H;split at h
   ·rename_i J;obtain⟨rfl,A⟩:=J;simp only[Q9,Qs]at h;obtain⟨r,rfl⟩:=h;rw[hg]at r;obtain⟨h0,h1⟩:=Z5n r;obtain⟨z,D⟩:=Q (by simp)
    have D:Rp w G.F G.St G.Al (.slice f) tg (Z02 (a.eval x)) l []:=D;obtain⟨t',L,cap,rfl,v,V,T⟩:=D;have hv:a.eval x= .slice L (List.length (α:=El f) l) cap:=by
     have z:Z0f false (a.eval x):=z;rw[Z0q z]at v;simpa using v
    obtain⟨k,U⟩:=Z3N I B H;have d:n.toNat<List.length (α:=El f) l:=by omega
    rcases T with⟨_,_,u,_⟩ | ⟨_,b,off,fps,_,_,u,_⟩ | ⟨K,_,u⟩
    ·rw[u]at d;simp at d
    ·cases u
    ·rcases u with u | ⟨b,off,rfl,Z,hF,y⟩
     ·rw[u]at d;simp at d
     ·obtain⟨j,q,X⟩:=y n.toNat d;refine⟨.pointer (some ⟨b,off+n.toNat * size f,none⟩),⟨rfl,K,b,off+n.toNat * size f,j,rfl,q,Z,?_,?_,?_⟩,λw2=> ?_⟩
      ·have:(n.toNat+1) * size f<=List.length (α:=El f) l * size f:=Qt _ d;rw[QC,Xg]at this;show off+n.toNat * size f+size f<=_
       omega
      ·intro hN t2 Y;obtain⟨_,rfl⟩:=XC.1 Y;simp only[List.headD_cons]at hN ⊢;cases t'<;>simp_all[Tag.isN,Tag.inner,Tag.own]
      ·have:List.getD (α:=El f) l n.toNat (zero f)=List.get (α:=El f) l ⟨n.toNat,d⟩:=Z4e _ _ _ _;show Rp w G.F G.St G.Al f _ j (List.getD (α:=El f) l n.toNat (zero f)) []
       rw[this];exact X
      ·rw[Z03 W];simp only[execOp,hv,U,Sem.run_bind,Z5B hT ht A r,Result.andThen_ok,Sem.run_pure]
   ·cases h
  ·cases h
 ·cases h
theorem Z6d (p:Z0e P tys)(I:Inv W0 M σ a w G xs){t:TypeId}{x i:Operand}(l:o.op= .index t x i)(h:Z0l tys σ o.op=some (g,tv))(q:g=true):Z0N P σ a w G o tv:=by
 rw[l]at h;simp only[Z0l]at h;split at h
 ·rename_i s tg A ht u j;split at h
  ·rename_i n v;split at h
   ·cases h
   rename_i f;simp only[Q9,Qs]at h;obtain⟨d,rfl⟩:=h;rw[q]at d;obtain⟨m,z⟩:=Z5n d;obtain⟨k,r⟩:=Z3N I j v;have y:=Z25 I u;refine⟨.int .u8 (bt s n),Z0z rfl ⟨rfl,rfl,rfl⟩,λw2=> ?_⟩
   rw[Z03 l];have e:n.toNat<s.size:=by omega
   have b:s[n.toNat]? = some s[n.toNat]:=by simp[e]
   simp only[execOp,y,r,Instr.index,asIntOf,Sem.run_bind,Sem.run_pure,Result.andThen_ok,run_underlying (Z1H p ht (by simpa using f)),QM m,b]
   congr 3;unfold bt;congr 1;have:n.toNat<s.data.toList.length:=by simpa using e
   rw[Z4e _ _ _ this];rfl
  ·cases h
 ·cases h
theorem Z6P:{ags:List Bool}->{τ:Ty}->{vs:List Value}->{i:Nat}->{F:Nat->Nat}->{St Al:Nat->Prop}->{w:World}->{x:El τ}->{tg:List Tag}->{fp:List Nat}->Z1d τ ags vs->i<ags.length ->
  ∃v,vs[i]? = some v/\Z0f (Z0u false ags i) v/\∃d,Z00 w τ (vs.flatMap Z02) none (Z0a ags.length i)=some (Z02 v,d)
 | [],τ,vs,i,_,_,_,w,_,_,_,h,e=>by simp at e
 | [ag],τ,vs,i,_,_,_,w,_,_,_,h,e=>by
  have:i=0:=by simpa using e
  subst this
  match vs,h with
  | [v],h=>
   have h:Z0f ag v/\(Z02 v).length=size τ:=by cases τ<;>exact h
   exact⟨v,rfl,h.1,none,by simp[Z0a,Z0O]⟩
  | [],h=>cases τ<;>exact h.elim
  |_::_::_,h=>cases τ<;>exact h.elim
 |ag::f::ags,τ,vs,i,F,St,Al,w,x,tg,fp,h,e=>by
  cases τ with
  |pair a b=>
   cases vs with
   |nil=>exact h.elim
   |cons v vs=>
   obtain⟨k,j,l⟩:Z0f ag v/\(Z02 v).length=size a/\Z1d b (f::ags) vs:=by
    cases vs<;>exact h
   cases i with
   |zero=>
    refine⟨v,rfl,k,none,?_⟩;simp only[Q8,Z0a,Z00,QH,Z0O];rw[<-j,YD];rfl
   |succ i=>
    obtain⟨q,m,n,d,p⟩:=Z6P (w:=w) (x:=zero b) (tg:=[]) (fp:=[]) (F:=F) (St:=St) (Al:=Al) l (i:=i) (by simpa using e)
    refine⟨q,by simpa using m,n,d,?_⟩
    simp only[Q8,Z0a,Z00,QH,Option.map_none];rw[<-j,YM]
    ·exact p
    ·rfl
  |_=>exact h.elim
theorem Z1d.ones:{ags:List Bool}->{τ:Ty}->{vs:List Value}->Z1d τ ags vs->∀v∈vs,Z02 v=v.cells.toList
 | [],τ,vs,h=>by cases τ<;>cases vs<;>exact h.elim
 | [ag],τ,vs,h=>by
  match vs,h with
  | [v],h=>
   have h:Z0f ag v/\(Z02 v).length=size τ:=by cases τ<;>exact h
   intro u d;simp only[QB]at d;subst d;exact h.1.cells
  | [],h=>cases τ<;>exact h.elim
  |_::_::_,h=>cases τ<;>exact h.elim
 |ag::e::ags,τ,vs,h=>by
  cases τ with
  |pair a b=>
   cases vs with
   |nil=>exact h.elim
   |cons v vs=>
   obtain⟨f,j,i⟩:Z0f ag v/\(Z02 v).length=size a/\Z1d b (e::ags) vs:=by
    cases vs<;>exact h
   intro u d;rcases Qp.1 d with rfl | d
   ·exact f.cells
   ·exact Z1d.ones i u d
  |_=>exact h.elim
theorem Z0U {i:Nat}(h:σ.slot i≠ .dead):i<σ.slots.length:=by
 rcases Yi i σ.slots.length with b | b
 ·exact b
 ·exact absurd (Z2e (d:=TV.dead) σ.slots i b) h
theorem Z5e (I:Inv W0 M σ a w G xs){x:Operand}{i:Nat}(H:o.op= .extract x i)(h:Z0l tys σ o.op=some (g,tv)):Z0N P σ a w G o tv:=by
 rw[H]at h;cases x with
 |tmp t=>
  have e:∀ {t':Nat} {ags:List Bool} {v:TVal},σ.content ⟨false,t',[]⟩=some v->Z09 G a w ⟨false,t',[]⟩=some (Z02 (a.tmps.getD t undef),none)->(∃vs,a.tmps.getD t undef= .tuple vs/\Z1d v.τ ags vs.toList) ->
    (if i<ags.length then (Z35 σ ⟨false,t',Z0a ags.length i⟩ (Z0u false ags i)).map λtv=>(true,tv) else none)=some (g,tv)->Z0N P σ a w G o tv:=by
   intro t' ags v m j k h;split at h
   ·rename_i Q;obtain⟨D,d,E⟩:=Qm.1 h;simp only[Qs]at E;obtain⟨rfl,rfl⟩:=E;obtain⟨vs,l,n⟩:=k;obtain⟨u,p,r,f,A⟩:=Z6P (w:=w) (x:=v.x) (tg:=v.tg) (fp:=[]) (F:=G.F) (St:=G.St) (Al:=G.Al) n Q;have C:Z02 (a.tmps.getD t undef)=vs.toList.flatMap Z02:=by
     rw[l];simp only[Z02];have:=n.ones;generalize vs.toList=L at this;induction L with
     |nil=>rfl
     |cons y L T=>
      simp only[QH];rw[T (λz R=>this z (Qa _ R)),this y (by simp)]
    refine⟨u,Z2y I d (cs:=Z02 u) (base:=f) ⟨v.τ,Z02 (a.tmps.getD t undef),none,?_,j,?_⟩ rfl r,λw2=> ?_⟩
    ·show (σ.content ⟨false,t',[]⟩).map (·.τ)=_
     rw[m];rfl
    ·rw[C];exact A
    ·rw[Z03 H];have B:a.eval (.tmp t)= .tuple vs:=l;have q:vs[i]? = some u:=by rw[<-p];simp
     simp only[execOp,B,Instr.extract,q,Sem.run_bind,Sem.run_pure,Result.andThen_ok]
   ·cases h
  simp only[Z0l]at h;split at h
  ·rename_i v ags b;have k:=I.slot t (Z0U (by rw[b];simp))
   rw[b]at k;exact e (v:=v) (by simp[State.content,b]) rfl k.1 h
  ·rename_i t' ags b;have k:=I.slot t (Z0U (by rw[b];simp))
   rw[b]at k;have K:∃v,σ.content ⟨false,t',[]⟩=some v:=by
    split at h
    ·obtain⟨D,d,_⟩:=Qm.1 h;unfold Z35 at d;split at d
     ·rename_i u J;unfold State.getAt at J;obtain⟨v,l,_⟩:=Yj.1 J;exact⟨v,l⟩
     ·cases d
    ·cases h
   obtain⟨v,l⟩:=K;obtain⟨p,vs,r,A⟩:=k.2 v.τ (by show (σ.content ⟨false,t',[]⟩).map (·.τ)=_;rw[l];rfl)
   exact e l p ⟨vs,r,A⟩ h
  ·cases h
 |_=>simp[Z0l]at h
theorem Z72 (I:Inv W0 M σ a w G xs):(b:List Operand)->{l:List Place}->(b.map σ.peek).foldr (λtv f=>match tv,f with | .ptr p,some l=>some (p::l) | _,_=>none) (some [])=some l ->
  b.length=l.length/\∀i (h:i<l.length),l[i].box=true/\Z08 l[i].path=true/\Z0w σ G a w l[i] ((b.map a.eval).getD i undef)
 | [],l,h=>by
  simp only[Yh,List.foldr_nil,Q9]at h;subst h;exact⟨rfl,λi j=>absurd j (by simp)⟩
 |c::b,l,h=>by
  simp only[Qz,List.foldr_cons]at h;split at h
  ·rename_i p l' e d;cases h;obtain⟨m,n⟩:=Z72 I b d;have k:=Z0v I c (by rw[e];simp)
   rw[e]at k;refine⟨by simp[m],λi j=> ?_⟩
   cases i with
   |zero=>exact k.2
   |succ i=>exact n i (by simpa using j)
  ·cases h
theorem Z4L (I:Inv W0 M σ a w G xs){f:Fn}{first b:Array Operand}(k:o.op= .makeFunc f first b)(h:Z0l tys σ o.op=some (g,tv)):Z0N P σ a w G o tv:=by
 rw[k]at h;cases f with
 |func f=>
  simp only[Z0l]at h;split at h
  ·rename_i j;split at h
   ·rename_i l q;simp only[Q9,Qs]at h;obtain⟨rfl,rfl⟩:=h;obtain⟨m,n⟩:=Z72 I _ q;have d:first= #[]:=by simpa using j
    refine⟨.func (.func f) #[] (b.map a.eval),⟨rfl,b.map a.eval,rfl,by simpa using m,λi p=> ?_⟩,λw2=> ?_⟩
    ·have:=n i p;have e:(b.map a.eval).getD i undef=(b.toList.map a.eval).getD i undef:=by
      rw[<-Array.toList_map,X5,Qc,QK]
     rw[e];exact this
    ·rw[Z03 k];simp only[execOp,d,Instr.makeFunc,Sem.run_bind,Sem.run_pure,Result.andThen_ok];simp
   ·cases h
  ·cases h
 |_=>simp[Z0l]at h
end
end Go.PI
namespace Go.PI
theorem Z5g {τ d:Ty}(h:Z0d τ [.fst]=some d):∃b,τ= .pair d b:=by
 cases τ with
 |pair a b=>simp only[Z0d,Q9]at h;subst h;exact⟨b,rfl⟩
 |_=>simp[Z0d]at h
theorem Z8Y {τ d:Ty}{p:List Step}(h:Z0d τ (.snd::p)=some d):∃a b,τ= .pair a b/\Z0d b p=some d:=by
 cases τ with
 |pair a b=>exact⟨a,b,rfl,by simpa[Z0d]using h⟩
 |_=>simp[Z0d]at h
section
variable {W0:Base}{M:Nat->Prop}{σ:State}{a:Act}{w:World}{G:Ghost}{xs:List Nat}{P:Program}{tys:List (TypeId×Ty×List TypeId)}{o:Oper}{g:Bool}{tv:TV}
variable {F:Nat->Nat}{St Al:Nat->Prop}
theorem Z5T {n:Nat}{t:TypeId}(h:Z41 tys n t=true):∃m τ l,n=m+1/\Z0o tys t=some (τ,l)/\((l=[]/\((∃k,τ= .int k)\/τ= .bool\/τ= .str))\/(l≠[]/\∀x∈l,Z41 tys m x=true)):=by
 cases n with
 |zero=>cases h
 |succ m=>
  simp only[Z41]at h;split at h
  ·rename_i k d;exact⟨m,_,_,rfl,d,.inl ⟨rfl,.inl ⟨k,rfl⟩⟩⟩
  ·rename_i d;exact⟨m,_,_,rfl,d,.inl ⟨rfl,.inr (.inl rfl)⟩⟩
  ·rename_i d;exact⟨m,_,_,rfl,d,.inl ⟨rfl,.inr (.inr rfl)⟩⟩
  ·rename_i τ b l d;simp only[Q6,QD]at h;refine⟨m,_,_,rfl,d,.inr ⟨by simp,λx e=> ?_⟩⟩
   rcases Qp.1 e with rfl | e
   ·exact h.1
   ·exact h.2 x e
  ·cases h
theorem Z5S (r:Z0e P tys):(n d:Nat)->(t:TypeId)->n<=d->Z41 tys n t=true->P.eqGuardType d t=false
 | 0,d,t,_,h=>by cases h
 |n+1,d,t,K,h=>by
  obtain⟨m,τ,l,L,y,b⟩:=Z5T h;obtain rfl:m=n:=by omega
  obtain⟨d,rfl⟩:∃e,d=e+1:=⟨d-1,by omega⟩
  have q:=r t τ l y;rcases b with⟨rfl,b⟩ | ⟨C,b⟩
  ·obtain⟨H,I,J,_⟩:=q.und rfl;rcases b with⟨k,rfl⟩ | rfl | rfl
   ·simp only[Program.eqGuardType,H k rfl]
   ·simp only[Program.eqGuardType,I rfl]
   ·simp only[Program.eqGuardType,J rfl]
  ·obtain⟨u,D,A,j,_⟩:=q.str C;simp only[Program.eqGuardType,D];rw[Array.any_eq_false];intro i B;obtain⟨f,R,Q,p,v,_⟩:=(j i (by omega)).out
   have z:u[i]=f:=by rw[Xp B]at p;simpa using p
   rw[z,v];have E:Z41 tys m (l.getD i 0)=true:=b _ (by rw[Qc,Qn (by omega)];exact Q7 _)
   rw[Z5S r m d _ (by omega) E]
   simp
def EqT (P:Program)(tys:List (TypeId×Ty×List TypeId))(w:World)(F:Nat->Nat)(St Al:Nat->Prop)(d:Nat)(t:TypeId):Prop:=
 ∀τ l,Z0o tys t=some (τ,l)->∀(e f:List Value) (x y:El τ) (h i:List Tag),Rp w F St Al τ h e x []->Rp w F St Al τ i f y []->∀b,Z40 τ x y=some b->∀w2,
  (Op.equalIn d t (Z0J (!l.isEmpty) e) (Z0J (!l.isEmpty) f)).run P w2= .ok b w2
theorem Z7m {a b:Ty}{tg:List Tag}{cs:List Value}{x:El (.pair a b)}(h:Rp w F St Al (.pair a b) tg cs x []):∃f i d e,cs=d++e/\Rp w F St Al a f d x.1 []/\Rp w F St Al b i e x.2 []:=by
 obtain⟨f,i,d,e,m,n,_,rfl,l,j,k⟩:=h;have:=List.append_eq_nil_iff.1 l.symm;rw[this.1]at j;rw[this.2]at k;exact⟨f,i,d,e,rfl,j,k⟩
theorem Z6D (H:Z0e P tys)(d:Nat)(k l:Array Value)(w2:World):(m:Nat)->(fl:List Field)->(τ:Ty)->(off:Nat)->m≠0->fl.length=m ->
  (∀i, i < m → ∃f u C, fl[i]? = some f ∧ f.offset = off + Z0g τ (Z0a m i) ∧ Z0d τ (Z0a m i) = some u ∧ Z0o tys f.type = some (u, C) ∧ f.name ≠ "_" ∧ EqT P tys w F St Al d f.type) →
  ∀(x y:El τ) (v A:List Tag),Rp w F St Al τ v (k.toList.drop off) x []->Rp w F St Al τ A (l.toList.drop off) y []->∀b,Z40 τ x y=some b->(Op.eqFields d k l fl).run P w2= .ok b w2
 | 0,fl,τ,off,h,_,_,x,y,v,A,U,V,b,I=>absurd rfl h
 | 1,fl,τ,off,_,Y,X,x,y,v,A,U,V,b,I=>by
  obtain⟨f,u,C,R,K,T,B,g5,g6⟩:=X 0 (by omega)
  obtain⟨f',rfl⟩:=List.length_eq_one_iff.1 Y;simp only[YF,Q9]at R;subst R;simp only[Z0a,Z1F,Q9,Z4C,XK]at K T;subst T;have Z:=U.len.1;have s2:=V.len.1;simp only[Qu,X8]at Z s2;have e:=(H _ _ _ B);have D:=Z2T H B (cs:=k) (off:=off);have E:=Z2T H B (cs:=l) (off:=off);by_cases J:size τ=0
  ·obtain⟨i,z,q1,q2,q3,q4,_⟩:=e.info;exfalso;by_cases j:C=[]
   ·obtain⟨_,_,_,_,u5,u6⟩:=e.und j;cases τ with
    |unit=>exact u5 rfl
    |pair a b=>exact u6 a b rfl
    |_=>simp[size]at J
   ·obtain⟨fs,_,_,W,_⟩:=e.str j;obtain⟨f2,τ2,l2,_,_,_,r,_,q7,_⟩:=(W 0 (Yv.2 j)).out
    match hn:C.length with
    | 0=>exact absurd (Qv.1 hn) j
    | 1=>
     rw[hn]at r;simp only[Z0a,Z1F,Q9]at r;subst r;exact q7 J
    |n+2=>
     rw[hn]at r;simp only[Z0a]at r;obtain⟨b,rfl⟩:=Z5g r;simp only[size]at J;omega
  ·have D:=D (by omega) w2
   have E:=E (by omega) w2
   rw[Xd (by simp;omega)]at D E
   have e3:=g6 τ C B _ _ x y v A U V b I w2;simp only[Op.eqFields,g5,ne_eq,not_false_eq_true,XH,Sem.run_bind,K,D,E,e3,Result.andThen_ok];cases b<;>simp
 |m+2,fl,τ,off,_,Y,X,x,y,v,A,U,V,b,I=>by
  obtain⟨f,u,C,R,K,T,B,g5,g6⟩:=X 0 (by omega)
  cases fl with
  |nil=>simp at Y
  |cons f' fl=>
   simp only[YF,Q9]at R;subst R;simp only[Z0a]at K T;obtain⟨τb,rfl⟩:=Z5g T;have h0:Z0g (.pair u τb) [.fst]=0:=by cases u<;>rfl
   rw[h0,XK]at K;obtain⟨ta1,tb1,ca1,L,k1,r1,r2⟩:=Z7m U;obtain⟨ta2,tb2,ca2,Q,k2,r3,r4⟩:=Z7m V;simp only[Z40]at I;split at I
   ·rename_i p q hp hq;cases I;have Z:=r1.len.1;have s2:=r3.len.1;have l1:(k.toList.drop off).length=ca1.length+L.length:=by rw[k1,Q5]
    have l2:(l.toList.drop off).length=ca2.length+Q.length:=by rw[k2,Q5]
    simp only[Qu,X8]at l1 l2;by_cases J:size u=0
    ·
     exfalso;have e:=(H _ _ _ B);by_cases j:C=[]
     ·obtain⟨_,_,_,_,u5,u6⟩:=e.und j;cases u with
      |unit=>exact u5 rfl
      |pair a b=>exact u6 a b rfl
      |_=>simp[size]at J
     ·obtain⟨fs,_,_,W,_⟩:=e.str j;obtain⟨f2,τ2,l2,_,_,_,r,_,q7,_⟩:=(W 0 (Yv.2 j)).out
      match hn:C.length with
      | 0=>exact absurd (Qv.1 hn) j
      | 1=>
       rw[hn]at r;simp only[Z0a,Z1F,Q9]at r;subst r;exact q7 J
      |n+2=>
       rw[hn]at r;simp only[Z0a]at r;obtain⟨b,rfl⟩:=Z5g r;simp only[size]at J;omega
    have D:=Z2T H B (cs:=k) (off:=off) (by omega) w2
    have E:=Z2T H B (cs:=l) (off:=off) (by omega) w2
    rw[k1,YD Z]at D;rw[k2,YD s2]at E;have e3:=g6 u C B _ _ x.1 y.1 ta1 ta2 r1 r3 p hp w2;have d1:k.toList.drop (off+size u)=L:=by rw[<-X9,k1,YM Z]
    have d2:l.toList.drop (off+size u)=Q:=by rw[<-X9,k2,YM s2]
    have e4:=Z6D H d k l w2 (m+1) fl τb (off+size u) (by omega) (by simpa using Y) (λi hi=>by
     obtain⟨f,τg,lg,q1,q2,q3,q4,W,r⟩:=X (i+1) (by omega)
     simp only[Z0a]at q2 q3;obtain⟨a',b',he,q3'⟩:=Z8Y q3;cases he;refine⟨f,τg,lg,by simpa using q1,?_,q3',q4,W,r⟩
     have:Z0g (.pair u τb) (.snd::Z0a (m+1) i)=size u+Z0g τb (Z0a (m+1) i):=rfl;rw[q2,this];omega) x.2 y.2 tb1 tb2 (by rw[d1];exact r2) (by rw[d2];exact r4) q hq
    simp only[Op.eqFields,g5,ne_eq,not_false_eq_true,XH,Sem.run_bind,K,D,E,e3,Result.andThen_ok];cases p
    ·simp
    ·simpa using e4
   ·cases I
theorem Z78 (B:Z0e P tys):(n d:Nat)->(t:TypeId)->n<=d->Z41 tys n t=true->EqT P tys w F St Al d t
 | 0,d,t,_,h=>by cases h
 |n+1,d,t,hd,h=>by
  obtain⟨m,τ,l,hm,Q,r⟩:=Z5T h;obtain rfl:m=n:=by omega
  obtain⟨d,rfl⟩:∃e,d=e+1:=⟨d-1,by omega⟩
  have L:=B t τ l Q;intro τ' l' p z A x y I J u v b j w2;rw[Q]at p;cases p;rcases r with⟨rfl,r⟩ | ⟨T,r⟩
  ·obtain⟨u1,u2,u3,_⟩:=L.und rfl;rcases r with⟨k,rfl⟩ | rfl | rfl
   ·obtain⟨rfl,_,_⟩:=u;obtain⟨rfl,_,_⟩:=v;simp only[Z40,Q9]at j;subst j;show (Op.equalIn (d+1) t (.int k x) (.int k y)).run P w2=_
    simp only[Op.equalIn,Sem.run_bind,run_underlying (u1 k rfl),Result.andThen_ok,XH,Sem.run_pure]
   ·obtain⟨rfl,_,_⟩:=u;obtain⟨rfl,_,_⟩:=v;simp only[Z40,Q9]at j;subst j;show (Op.equalIn (d+1) t (.bool x) (.bool y)).run P w2=_
    simp only[Op.equalIn,Sem.run_bind,run_underlying (u2 rfl),Result.andThen_ok,Sem.run_pure]
   ·obtain⟨rfl,_,_⟩:=u;obtain⟨rfl,_,_⟩:=v;simp only[Z40,Q9]at j;subst j;show (Op.equalIn (d+1) t (.string x) (.string y)).run P w2=_
    simp only[Op.equalIn,Sem.run_bind,run_underlying (u3 rfl),Result.andThen_ok,Sem.run_pure];rw[beq_toListBytes]
  ·obtain⟨K,U,C,D,H⟩:=L.str T;have E:(!l.isEmpty)=true:=by cases l<;>simp_all
   rw[E];have q:P.fieldsOf t=K:=by simp[Program.fieldsOf,U]
   show (Op.equalIn (d+1) t (.agg z.toArray) (.agg A.toArray)).run P w2=_
   rw[run_equalIn_struct w2 d t _ _ (by rw[q];exact U) H,q]
   refine Z6D B d _ _ w2 l.length K.toList τ 0 (by simpa using T) (by simpa using C) (λi R=> ?_) x y I J (by simpa using u) (by simpa using v) b j
   obtain⟨f,τf,W,X,Y,Z,q4,q5,_,q7⟩:=(D i R).out;refine⟨f,τf,W,by rw[QK];exact X,by rw[Z];omega,q4,q5,q7,?_⟩
   have V:Z41 tys m f.type=true:=by
    rw[Y];exact r _ (by rw[Qc,Qn R];exact Q7 _)
   exact Z78 B m d f.type (by omega) V
theorem Z9i (R:Z0e P tys)(I:Inv W0 M σ a w G xs){C:BinOp}{t ty:TypeId}{x y:Operand}(V:o.op= .binOp C t x y ty){u v:TVal}(Z:σ.look x=some u)(hv:σ.look y=some v)(z:u.ag=true)(A:v.ag=true)
  {r:Bool×TVal} (e:eqV tys t C u v=some r):Z0N P σ a w G o (.val r.2):=by
 unfold eqV at e;split at e
 ·rename_i T;simp only[Q6,Ql]at T;obtain⟨⟨j,K⟩,L⟩:=T;obtain⟨l,n,U⟩:=Z0Q L;rw[K]at U;obtain⟨f,k⟩:=Z1p I Z;obtain⟨h,m⟩:=Z1p I hv;obtain⟨τ,ag,p,tg⟩:=u;obtain⟨τ',X,q,Q⟩:=v;simp only at z A k m f h n;subst z;subst A;obtain⟨D,H⟩:=k;obtain⟨E,J⟩:=m;split at e
  ·rename_i W;simp only at W;subst W;have v1:Z02 (a.eval x)=D.toList:=by rw[H];rfl
   have v2:Z02 (a.eval y)=E.toList:=by rw[J];rfl
   rw[v1]at f;rw[v2]at h;have d:∀w2:World,(eqGuard C t x y (.agg D) (.agg E)).run P w2= .ok () w2:=by
    intro w2;have Y:=Z5S R 20 P.depth t (by unfold Program.depth Made.depth;omega) j
    cases C<;>simp[eqGuard,Y,Sem.run_bind,run_program]
   have i:∀b,Z40 τ' p q=some b->∀w2,(Op.equal t (.agg D) (.agg E)).run P w2= .ok b w2:=by
    intro b B w2;have:=Z78 (w:=w) (F:=G.F) (St:=G.St) (Al:=G.Al) R 20 Op.maxDepth t (by unfold Op.maxDepth;omega) j _ _ n _ _ p q tg Q f h b B w2
    rw[<-U]at this;exact this
   split at e
   ·rename_i b B;split at e
    ·cases e;refine⟨.bool b,Z0z rfl ⟨rfl,rfl,rfl⟩,λw2=> ?_⟩
     rw[Z03 V];simp only[execOp,H,J,Sem.run_bind,d w2,Result.andThen_ok,binOp,i b B w2,Sem.run_pure]
    ·cases e;refine⟨.bool (!b),Z0z rfl ⟨rfl,rfl,rfl⟩,λw2=> ?_⟩
     rw[Z03 V];simp only[execOp,H,J,Sem.run_bind,d w2,Result.andThen_ok,binOp,i b B w2,Sem.run_pure]
    ·cases e
   ·cases e
  ·cases e
 ·cases e
theorem Z7w (i:Z0e P tys)(I:Inv W0 M σ a w G xs){n:BinOp}{t ty:TypeId}{x y:Operand}(e:o.op= .binOp n t x y ty)(h:Z0l tys σ o.op=some (g,tv))(m:g=true):Z0N P σ a w G o tv:=by
 rw[e]at h;simp only[Z0l]at h;split at h
 ·rename_i u v k l;obtain⟨r,f,j⟩:=Qm.1 h;simp only[Qs]at j;obtain⟨d,rfl⟩:=j;rw[m]at d;split at f
  ·rename_i b;simp only[Q6]at b;exact Z9i i I e k l b.1 b.2 f
  ·exact Z8T i I e k l f d
 ·cases h
theorem Z7z (d:Z0e P tys)(I:Inv W0 M σ a w G xs)(h:Z0l tys σ o.op=some (g,tv))(e:g=true):Z5N P σ a w G o tv:=by
 cases b:o.op with
 |move x=>exact(Z3f I b h).ok
 |unOp j t x=>exact(Z6O I b h).ok
 |binOp j t x y ty=>exact(Z7w d I b h e).ok
 |convert s t x=>exact Z7x d I b h
 |nilCheck x=>exact(Z3p I b h).ok
 |makeFunc f fst cs=>exact(Z4L I b h).ok
 |load t x=>exact Z8U d I b h
 |slice t x l k m=>exact(Z6e d I b h e).ok
 |fieldAddr t x i=>exact(Z2V d I b h).ok
 |field t x i=>exact(Z6c d I b h).ok
 |indexAddr t x i=>exact(Z2W d I b h e).ok
 |index t x i=>exact(Z6d d I b h e).ok
 |extract x i=>exact(Z5e I b h).ok
 |call c=>exact(Z7y d I b h).ok
 |_=>rw[b]at h;simp[Z0l]at h
end
end Go.PI
namespace Go.PI
structure Calmer (w:World)(G:Ghost)(w':World)(G':Ghost):Prop where
 a:∀w2,Z6g w' G' w2->Z6g w G w2
 b:∀w2,Z4n w' G' w2->Z4n w G w2
def Z5j (w:World)(G:Ghost)(w':World)(G':Ghost):Prop:=∀w2,Z4n w' G' w2->Z4n w G w2
theorem Calmer.refl (w:World)(G:Ghost):Calmer w G w G:=⟨λ_ h=>h,λ_ h=>h⟩
theorem Calmer.trans {i w2 j:World}{e f g:Ghost}(h:Calmer i e w2 f)(k:Calmer w2 f j g):Calmer i e j g:=⟨λw d=>h.a w (k.a w d),λw d=>h.b w (k.b w d)⟩
theorem Sim.calmer {w:World}{G G':Ghost}(h:Sim G G'):Calmer w G w G':=⟨λw2 e=>
 ⟨λb d g o n cs j f=>e.1 b d (by rw[h.Al];exact g) o n cs (by rw[h.F];exact j) f,λi b d=>e.2 i b ((h.bx b i).2 d)⟩,λw2 e i b d=>e i b ((h.bx b i).2 d)⟩
structure Pushed (w w':World)(o:Obj):Prop where
 heap:w'.heap=w.heap.push o
 os:w'.os=w.os
 tape:w'.tape=w.tape
 output:w'.output=w.output
theorem Pushed.old {w w':World}{o:Obj}(h:Pushed w w' o){b:Nat}(d:b<w.heap.size):w'.heap[b]? = w.heap[b]? := by
 rw[h.heap,Array.getElem?_push_lt d,Xp d]
theorem Pushed.new {w w':World}{o:Obj}(h:Pushed w w' o):w'.heap[w.heap.size]? = some o:=by
 rw[h.heap];simp
theorem Pushed.size {w w':World}{o:Obj}(h:Pushed w w' o):w'.heap.size=w.heap.size+1:=by rw[h.heap];simp
theorem Pushed.alloc (w:World)(o:Obj):Pushed w (w.alloc o) o:=⟨rfl,rfl,rfl,rfl⟩
theorem Pushed.drew (w:World)(o:Obj):Pushed w (w.drew.alloc o) o:=⟨rfl,rfl,rfl,rfl⟩
def Ghost.grow (G:Ghost)(g:Nat)(z:Who)(n:Nat):Ghost:=
 { G with F:=λb=>if b=g then n else G.F b,who:=λb=>if b=g then some z else G.who b }
section
variable {W0:Base}{M:Nat->Prop}{σ:State}{a:Act}{w w':World}{G:Ghost}{xs:List Nat}
theorem Inv.grow (I:Inv W0 M σ a w G xs){o:Obj}(e:Pushed w w' o){z:Who}(n:Nat){ys:List Nat}(A:(z= .x/\ys=[w.heap.size])\/((∃i,z= .a i)/\ys=[])) :
  Inv W0 M σ a w' (G.grow w.heap.size z n) (ys++xs)/\Calmer w G w' (G.grow w.heap.size z n) /\
   ∀(τ:Ty) (tg:List Tag) (cs:List Value) (x:El τ) (fp:List Nat),Rp w G.F G.St G.Al τ tg cs x fp ->
    Rp w' (G.grow w.heap.size z n).F (G.grow w.heap.size z n).St (G.grow w.heap.size z n).Al τ tg cs x fp:=by
 have l:∀b,b<w.heap.size->Z07 w G.F w' (G.grow w.heap.size z n).F b/\(G.grow w.heap.size z n).F b=G.F b:=by
  intro b d;have:(G.grow w.heap.size z n).F b=G.F b:=by
   show (if b=w.heap.size then n else G.F b)=_
   rw[QN (by omega)]
  exact⟨Z07.of_block (e.old d) (by rw[this];exact Qq _),this⟩
 have f:∀b,b<w.heap.size->(G.grow w.heap.size z n).who b=G.who b:=λb d=>QN (by omega)
 have g:∀b z,G.who b=some z->b<w.heap.size:=λb z h=>(I.lt b z h).1
 have j:∀b k,G.who b=some k->(G.grow w.heap.size z n).who b=some k:=λb k h=>by rw[f b (g b k h)];exact h
 have m:Same σ w G w' (G.grow w.heap.size z n):=
  ⟨rfl,rfl,rfl,λb k h _=>j b k h,λb d h=>⟨λi=>by rw[f b d];exact h.1 i,λy=>h.2 (by rw[<-f b d];exact y)⟩,λb h=>h,λb h=>(l b (I.st b h).2).1,λb z h _ _=>l b (g b z h),λi v h=>e.old (g _ _ (I.box i v h).2),.inr λb d _=>(l b d).1⟩
 have D:(G.grow w.heap.size z n).who w.heap.size=some z:=QM rfl;refine⟨?_,?_,?_⟩
 ·refine I.world m (λb d=>⟨?_,?_⟩) (λb k d=> ?_) ?_ (λb d=> ?_) ?_ ⟨λb d u=>by rw[(l b (by have:=I.ext.size;omega)).2];exact I.org.F b d u,I.org.St,I.org.St'⟩
  ·rw[f b (I.st b d).2];exact(I.st b d).1
  ·rw[e.size];have:=(I.st b d).2;omega
  ·by_cases p:b=w.heap.size
   ·subst p;exact⟨by rw[e.size];omega,.inl I.ext.size⟩
   ·have:G.who b=some k:=by
     have q:(G.grow w.heap.size z n).who b=G.who b:=QN p;rw[<-q];exact d
    obtain⟨q,B⟩:=I.lt b k this;exact⟨by rw[e.size];omega,B⟩
  ·refine⟨e.os.trans I.ext.os,e.tape.trans I.ext.tape,e.output.trans I.ext.output,by rw[e.size];have:=I.ext.size;omega,λb d u=> ?_⟩
   rw[e.old (by have:=I.ext.size;omega)];exact I.ext.block b d u
  ·rcases Qr.1 d with d | d
   ·rcases A with⟨rfl,rfl⟩ | ⟨_,rfl⟩
    ·rw[QB.1 d];exact D
    ·cases d
   ·exact j b _ (I.whoX b d)
  ·rcases A with⟨rfl,rfl⟩ | ⟨_,rfl⟩
   ·refine Xx.2 ⟨λE=> ?_,I.nodX⟩
    have:=g _ _ (I.whoX _ E);omega
   ·exact I.nodX
 ·refine⟨λw2 r=>⟨λb d C o H cs y q=> ?_,λi b d=> ?_⟩,λw2 r i b d=> ?_⟩
  ·refine r.1 b (by rw[e.size];omega) (m.Al b d C) o H cs (by rw[(l b d).2];exact y) ?_
   rw[Z0Z (e.old d)];exact q
  ·rw[r.2 i b (j b _ d)];exact e.old (g b _ d)
  ·rw[r i b (j b _ d)];exact e.old (g b _ d)
 ·intro τ tg cs x fp h;exact h.pres m.St m.Al m.S (λb d=>l b (h.lt b d)) (.inr λb d _=>(l b d).1)
end
end Go.PI
namespace Go.PI
def Z1s (i:Nat)(tv:TV)(v:Value)(Q:Place->Value->Prop):Prop:=
 match tv with
 |.ref p _=>¬ (p.box=true/\p.root=i)
 |.eref p=>¬ (p.box=true/\p.root=i)
 |.ptr p=>p.root=i->Q p v
 |.clos f b=>∀k (h:k<b.length),b[k].root=i->∀vs:Array Value,v= .func (.func f) #[] vs->Q b[k] (vs.getD k undef)
 |_=>True
theorem Z1s.mono {i:Nat}{tv:TV}{v:Value}{Q d:Place->Value->Prop}(h:Z1s i tv v Q)(e:∀p v,p.root=i->Q p v->d p v):Z1s i tv v d:=by
 cases tv with
 |ptr p=>exact λb=>e _ _ b (h b)
 |clos f l=>exact λk g b vs j=>e _ _ b (h k g b vs j)
 |_=>exact h
theorem Z1s.or_dead {i:Nat}{tv b:TV}{v:Value}{Q:Place->Value->Prop}(h:Z1s i tv v Q)(ht:b=tv\/b= .dead):Z1s i b v Q:=by
 rcases ht with rfl | rfl
 ·exact h
 ·trivial
def Z2k (g:Nat)(τ:Ty)(p:Place)(u:Value):Prop:=
 p.box=true/\Z08 p.path=true/\∃off,u= .pointer (some ⟨g,off,none⟩)/\∀(w:World) (l:List Value),∃cs,Z00 w τ l (some (g,0)) p.path=some (cs,some (g,off))
theorem Z4z:{path:List Step}->{w w':World}->{τ:Ty}->{l l':List Value}->{base:Option (Nat×Nat)}->{cs:List Value}->{b:Option (Nat×Nat)}->Z08 path=true ->
  Z00 w τ l base path=some (cs,b)->∃e,Z00 w' τ l' base path=some (e,b)
 | [],w,w',τ,l,l',base,cs,b,_,h=>by
  rw[Z0O]at h ⊢;cases h;exact⟨_,rfl⟩
 |.fst::p,w,w',.pair a c,l,l',base,cs,b,d,h=>Z4z (path:=p) (τ:=a) (w:=w) (w':=w') (l:=l.take (size a)) (l':=l'.take (size a)) d h
 |.snd::p,w,w',.pair a c,l,l',base,cs,b,d,h=>Z4z (path:=p) (τ:=c) (w:=w) (w':=w') (l:=l.drop (size a)) (l':=l'.drop (size a)) d h
 |.idx _::_,_,_,_,_,_,_,_,_,d,_=>by simp[Z08]at d
 |.fst::_,_,_,.int _,_,_,_,_,_,_,h=>by simp[Z00]at h
 |.fst::_,_,_,.bool,_,_,_,_,_,_,h=>by simp[Z00]at h
 |.fst::_,_,_,.str,_,_,_,_,_,_,h=>by simp[Z00]at h
 |.fst::_,_,_,.unit,_,_,_,_,_,_,h=>by simp[Z00]at h
 |.fst::_,_,_,.slice _,_,_,_,_,_,_,h=>by simp[Z00]at h
 |.snd::_,_,_,.int _,_,_,_,_,_,_,h=>by simp[Z00]at h
 |.snd::_,_,_,.bool,_,_,_,_,_,_,h=>by simp[Z00]at h
 |.snd::_,_,_,.str,_,_,_,_,_,_,h=>by simp[Z00]at h
 |.snd::_,_,_,.unit,_,_,_,_,_,_,h=>by simp[Z00]at h
 |.snd::_,_,_,.slice _,_,_,_,_,_,_,h=>by simp[Z00]at h
section
variable {W0:Base}{M:Nat->Prop}{σ:State}{a:Act}{w w':World}{G:Ghost}{xs:List Nat}
theorem Z1B {i:Nat}{v:TVal}(h:σ.boxAt i=some v):i<σ.boxes.length:=by
 rcases Yi i σ.boxes.length with b | b
 ·exact b
 ·rw[show σ.boxAt i=none from Z2e _ _ b]at h;cases h
theorem Z0C (i:Nat)(v:Option TVal)(j:Nat):(σ.putBox i v).boxAt j=if i=j/\i<σ.boxes.length then v else σ.boxAt j:=Z0S _ _ _ _
theorem Z1E (i:Nat)(v:Option TVal)(j:Nat):(σ.putBox i v).slot j=σ.slot j:=rfl
theorem Z55 {i:Nat}{v:TVal}{p:Place}{u:Value}(I:Inv W0 M σ a w G xs)(g:σ.boxAt i=some v)(e:p.box=true)(d:Z08 p.path=true)(n:p.root=i)(h:Z0w σ G a w p u):Z2k (G.ad i) v.τ p u:=by
 obtain⟨B,r,path⟩:=p;simp only at e n d;subst e;subst n;rcases h with h | ⟨cs,b,⟨τ,l,A,j,k,m⟩,y⟩
 ·rw[Z1o,g]at h;cases h
 ·rw[Z1o,g]at j;cases j;obtain⟨⟨c,T,z,_⟩,_⟩:=I.box r v g;simp only[Z09,z,Q9,Qs]at k;obtain⟨rfl,rfl⟩:=k;have f:∃off,b=(G.ad r,off):=by
   have:∀ {path:List Step} {τ:Ty} {l:List Value} {base:Nat×Nat} {cs:List Value} {b:Nat×Nat},Z08 path=true->Z00 w τ l (some base) path=some (cs,some b)->b.1=base.1:=by
    intro path;induction path with
    |nil=>intro τ l base cs b _ h;rw[Z0O]at h;cases h;rfl
    |cons s path q=>
     intro τ l base cs b d h;cases s with
     |idx i=>simp[Z08]at d
     |fst=>cases τ<;>first | (exact q (by simpa[Z08]using d) h) | (simp[Z00]at h)
     |snd=>cases τ<;>first | (have:=q (by simpa[Z08]using d) h;exact this) | (simp[Z00]at h)
   have:=this d m;exact⟨b.2,Prod.ext this rfl⟩
  obtain⟨off,rfl⟩:=f;exact⟨rfl,d,off,y,λw l=>Z4z d m⟩
theorem Inv.ptrFix (I:Inv W0 M σ a w G xs){i:Nat}{v:TVal}(m:σ.boxAt i=some v)(j:Nat)(q:j<σ.slots.length) :
  Z1s i (TV.loosen true i (σ.slot j)) (a.tmps.getD j undef) (Z2k (G.ad i) v.τ):=by
 have h:=I.slot j q;cases n:σ.slot j with
 |ref p ag=>
  simp only[TV.loosen];split
  ·trivial
  ·rename_i e;simpa[Z1s]using e
 |eref p=>
  simp only[TV.loosen];split
  ·trivial
  ·rename_i e;simpa[Z1s]using e
 |ptr p=>
  rw[n]at h;exact λl=>Z55 I m h.2.1 h.2.2.1 l h.2.2.2
 |clos f y=>
  rw[n]at h;obtain⟨_,vs,r,_,g⟩:=h;intro k b l u d;rw[r]at d;cases d;exact Z55 I m (g k b).1 (g k b).2.1 l (g k b).2.2
 |_=>trivial
theorem Z2k.rel {σ':State}{i:Act}{G':Ghost}{g:Nat}{τ:Ty}{p:Place}{u:Value}(h:Z2k g τ p u){v:TVal}(f:σ'.boxAt p.root=some v)(m:v.τ=τ)(b:G'.ad p.root=g)
  {c:Array Value} {T:TypeId} {fr:Nat×Nat} (j:w'.heap[g]? = some (.cells c T fr)):Z0w σ' G' i w' p u:=by
 obtain⟨d,q,off,l,k⟩:=h;obtain⟨cs,e⟩:=k w' c.toList;obtain⟨n,r,path⟩:=p;simp only at d f b e;subst d;refine .inr ⟨cs,(g,off),⟨τ,c.toList,some (g,0),?_,?_,e⟩,l⟩
 ·rw[Z1o,f,<-m];rfl
 ·simp only[Z09,b,j]
theorem Inv.addBox {fv:List Nat}(I:Inv W0 M σ a w G (fv++xs)){i g:Nat}{c:Array Value}{T:TypeId}{v:TVal}(hi:i<σ.boxes.length)(e:w.heap[g]? = some (.cells c T (0,0)))
  (hw:G.who g=some (.a i)) (hR:Rp w G.F G.St G.Al v.τ v.tg c.toList v.x fv)
  (hs:∀j,j<σ.slots.length->Z1s i (σ.slot j) (a.tmps.getD j undef) (λp u=>Z2k g v.τ p u)) (V:i<σ.slots.length\/G.ad i=g) :
  ∃G',Inv W0 M (σ.putBox i (some v)) a w G' xs/\G'.F=G.F/\G'.St=G.St/\G'.Al=G.Al/\(∀b k,G'.who b=some (.a k)↔G.who b=some (.a k))/\G'.ad=λj=>if j=i then g else G.ad j:=by
 classical
 let G':Ghost:=⟨G.F,G.St,(λb=>if b∈fv then some (.c i) else G.who b),G.fs,(λj=>if j=i then fv else G.fb j),λj=>if j=i then g else G.ad j⟩
 have n:∀b∈fv,G.who b=some .x:=λb e=>I.whoX b (Qh _ e)
 have J:∀b k,G'.who b=some (.a k)↔G.who b=some (.a k):=by
  intro b k;show (if b∈fv then some (Who.c i) else G.who b)=some (.a k)↔_
  by_cases e:b∈fv
  ·rw[n b e];simp[e]
  ·simp[e]
 have m:G'.Al=G.Al:=by
  funext b;apply propext;show ((∀k,(if b∈fv then some (Who.c i) else G.who b)≠some (.a k))/\((if b∈fv then some (Who.c i) else G.who b)=none->G.St b))↔_
  by_cases e:b∈fv
  ·simp only[e,XH];have:=n b e;constructor
   ·intro _;exact⟨λk=>(by rw[this];simp),λh=>(by rw[this]at h;cases h)⟩
   ·intro _;exact⟨λk=>(by simp),λh=>(by cases h)⟩
  ·simp only[e,XI];rfl
 have C:∀p:Place,¬ (p.box=true/\p.root=i)->(σ.putBox i (some v)).ct p=σ.ct p/\Z09 G' a w p=Z09 G a w p:=by
  rintro⟨bx,r,path⟩ hp;cases bx with
  |false=>exact⟨rfl,rfl⟩
  |true=>
   have W:r≠i:=λh=>hp ⟨rfl,h⟩
   refine⟨?_,?_⟩
   ·rw[Z1o,Z1o,Z0C,QN (by rintro⟨h,_⟩;exact W h.symm)]
   ·simp only[Z09];rw[show G'.ad r=G.ad r from QN W]
 have B:∀ {p:Place} {u:Value},p.root≠i->Z0w σ G a w p u->Z0w (σ.putBox i (some v)) G' a w p u:=by
  intro p u A h;obtain⟨P,Q⟩:=C p (λh=>A h.2)
  rcases h with h | ⟨cs,b,⟨τ,l,b',R,U,h5⟩,h6⟩
  ·exact .inl (P.trans h)
  ·exact .inr ⟨cs,b,⟨τ,l,b',P.trans R,Q.trans U,h5⟩,h6⟩
 have L:(σ.putBox i (some v)).boxAt i=some v:=by rw[Z0C];simp[hi]
 have E:∀ {p:Place} {u:Value},p.root=i->Z2k g v.τ p u->Z0w (σ.putBox i (some v)) G' a w p u:=by
  intro p u A h;exact h.rel (v:=v) (by rw[A];exact L) rfl (show (if p.root=i then g else G.ad p.root)=g by rw[QM A]) e
 refine⟨G',⟨I.defers,I.len,λj K=> ?_,λj u Y=> ?_,λj b e=> ?_,λj b e=> ?_,λb e=> ?_,I.nodS,λj=> ?_,(Qj.1 I.nodX).2.1,λb e=> ?_,λb z e=> ?_,I.ext,λj K=> ?_,⟨I.org.F,I.org.St,I.org.St'⟩,I.pin⟩,rfl,rfl,m,J,rfl⟩
 ·have h:=I.slot j K;have H:=hs j K;rw[Z1E];cases ht:σ.slot j with
  |ptr p=>
   rw[ht]at h H;refine⟨h.1,h.2.1,h.2.2.1,?_⟩;by_cases A:p.root=i
   ·exact E A (H A)
   ·exact B A h.2.2.2
  |clos f ps=>
   rw[ht]at h H;obtain⟨P,vs,Q,R,U⟩:=h;refine⟨P,vs,Q,R,λk X=>⟨(U k X).1,(U k X).2.1,?_⟩⟩
   by_cases A:ps[k].root=i
   ·exact E A (H k X A vs Q)
   ·exact B A (U k X).2.2
  |ref p ag=>
   rw[ht]at h H;exact Z01.move (λq d=> .inr (C q (by rw[QB.1 d];exact H))) rfl rfl m h
  |eref p=>
   rw[ht]at h H;exact Z01.move (λq d=> .inr (C q (by rw[QB.1 d];exact H))) rfl rfl m h
  |tref t' ags=>
   rw[ht]at h;exact Z01.move (λq d=> .inr (C q (by rw[QB.1 d];rintro⟨e,_⟩;cases e))) rfl rfl m h
  |dead=>rw[ht]at h;exact Z01.move (G:=G) (λq d=>absurd d (by simp[TV.places])) rfl rfl m h
  |un=>rw[ht]at h;exact Z01.move (G:=G) (λq d=>absurd d (by simp[TV.places])) rfl rfl m h
  |nil=>rw[ht]at h;exact Z01.move (G:=G) (λq d=>absurd d (by simp[TV.places])) rfl rfl m h
  |val u=>rw[ht]at h;exact Z01.move (G:=G) (λq d=>absurd d (by simp[TV.places])) rfl rfl m h
  |tup u ags=>rw[ht]at h;exact Z01.move (G:=G) (λq d=>absurd d (by simp[TV.places])) rfl rfl m h
  |eptr u t=>rw[ht]at h;exact Z01.move (G:=G) (λq d=>absurd d (by simp[TV.places])) rfl rfl m h
  |sclos f τs u=>rw[ht]at h;exact Z01.move (G:=G) (λq d=>absurd d (by simp[TV.places])) rfl rfl m h
  |sptr r τr p=>rw[ht]at h;exact Z01.move (G:=G) (λq d=>absurd d (by simp[TV.places])) rfl rfl m h
 ·rw[Z0C]at Y;split at Y
  ·rename_i Z;obtain⟨rfl,_⟩:=Z;cases Y;refine⟨⟨c,T,?_,?_⟩,?_⟩
   ·rw[show G'.ad i=g from QM rfl];exact e
   ·rw[show G'.fb i=fv from QM rfl,m];exact hR
   ·rw[show G'.ad i=g from QM rfl];exact(J _ _).2 hw
  ·rename_i Z;have y:j≠i:=λh=>Z ⟨h.symm,hi⟩
   obtain⟨⟨c',T',P,Q⟩,R⟩:=I.box j u Y;refine⟨⟨c',T',?_,?_⟩,?_⟩
   ·rw[show G'.ad j=G.ad j from QN y];exact P
   ·rw[show G'.fb j=G.fb j from QN y,m];exact Q
   ·rw[show G'.ad j=G.ad j from QN y];exact(J _ _).2 R
 ·have h:=I.whoS j b e;show (if b∈fv then some (Who.c i) else G.who b)=_
  rw[QN (λD=>by rw[n b D]at h;cases h)]
  exact h
 ·show (if b∈fv then some (Who.c i) else G.who b)=_
  by_cases y:j=i
  ·subst y;have:b∈fv:=by simpa[G']using e
   rw[QM this]
  ·have e:b∈G.fb j:=by simpa[G',y]using e
   have h:=I.whoC j b e;rw[QN (λD=>by rw[n b D]at h;cases h)]
   exact h
 ·have h:=I.whoX b (Qo _ e);show (if b∈fv then some (Who.c i) else G.who b)=_
  rw[QN]
  ·exact h
  ·intro D;exact(Qj.1 I.nodX).2.2 b D b e rfl
 ·show (if j=i then fv else G.fb j).Nodup
  split
  ·exact(Qj.1 I.nodX).1
  ·exact I.nodC j
 ·have h:=I.st b e;refine⟨?_,h.2⟩;show (if b∈fv then some (Who.c i) else G.who b)=none
  rw[QN (λD=>by rw[n b D]at h;cases h.1)]
  exact h.1
 ·change (if b∈fv then some (Who.c i) else G.who b)=some z at e
  split at e
  ·rename_i D;exact I.lt b _ (n b D)
  ·exact I.lt b z e
 ·have K:σ.slots.length<=j:=K;show (if j=i then g else G.ad j)=_
  split
  ·rename_i h;subst h;rcases V with h | h
   ·omega
   ·rw[<-h];exact I.adx _ K
  ·exact I.adx j K
end
end Go.PI
namespace Go.PI
theorem Z1x {α:Type}:∀(l:List α) (i:Nat) (u v:α),Z0G (Z0G l i u) i v=Z0G l i v
 | [],_,_,_=>rfl
 |_::_,0,_,_=>rfl
 |_::l,i+1,u,v=>by simp only[Z2u,Z28,Z1h];rw[Z1x l i u v]
theorem Z5c {α:Type}{d:α}:∀(l:List α) (i:Nat),i<l.length->Z0G l i (Z0u d l i)=l
 | [],_,h=>by simp at h
 |_::_,0,_=>rfl
 |_::l,i+1,h=>by simp only[Z2u,Z28,Z1h,Z0x,Z0s,Z0p];rw[Z5c l i (by simpa using h)]
section
variable {W0:Base}{M:Nat->Prop}{σ:State}{a:Act}{w w':World}{G:Ghost}{xs:List Nat}
theorem Inv.takeBox (I:Inv W0 M σ a w G xs){i:Nat}{v:TVal}(f:σ.boxAt i=some v) :
  ∃G',Inv W0 M ((σ.loosen true i).putBox i none) a w G' (G.fb i++xs)/\Sim G G'/\G.who (G.ad i)=some (.a i) /\
   (∃c T,w.heap[G.ad i]? = some (.cells c T (0,0))/\Rp w G.F G.St G.Al v.τ v.tg c.toList v.x (G.fb i)) /\
   ∀j,j<σ.slots.length->Z1s i ((σ.loosen true i).slot j) (a.tmps.getD j undef) (Z2k (G.ad i) v.τ):=by
 obtain⟨⟨c,T,m,k⟩,z⟩:=I.box i v f;obtain⟨u,n,_⟩:=I.loosen true i;have d:(σ.loosen true i).content ⟨true,i,[]⟩=some v:=f;obtain⟨A,q,g⟩:=n.recontent (p:=⟨true,i,[]⟩) (c':=⟨v.τ,v.ag,v.x,v.tg.map Tag.alias⟩) d rfl rfl (l:=c.toList) (b:=some (G.ad i,0)) (f':=[]) (fi:=G.fb i)
  (by simp[Z09,m]) (by exact k.alias (Ghost.St_Al I)) (by simp[Ghost.fpOf])
 have h:((σ.loosen true i).setContent ⟨true,i,[]⟩ ⟨v.τ,v.ag,v.x,v.tg.map Tag.alias⟩).putBox i none=(σ.loosen true i).putBox i none:=by
  simp only[State.setContent,State.putBox,Z1x]
 obtain⟨e,r,_⟩:=q.drop (σ':=(σ.loosen true i).putBox i none) (by simp[State.setContent,State.putBox]) (λj=> .inl rfl) (λj=>by
  rw[<-h,Z0C];split
  ·exact .inr rfl
  ·exact .inl rfl)
 refine⟨_,r,((Sim.fs G u).trans g).trans (Sim.fs _ e),z,⟨c,T,m,k⟩,λj y=> ?_⟩
 rw[Z0i];exact I.ptrFix f j y
theorem Z3r (i j:Nat):(σ.empty i).slot j=if i=j/\i<σ.slots.length then .dead else (σ.loosen false i).slot j:=by
 unfold State.empty State.put State.slot;simp only[];rw[Z0S];simp[State.loosen,Z0b]
theorem Inv.takeSlot (I:Inv W0 M σ a w G xs){i:Nat}{v:TVal}(d:σ.slot i= .val v) :
  ∃G',Inv W0 M (σ.empty i) a w G' (G.fs i++xs)/\Sim G G'/\Z0f v.ag (a.tmps.getD i undef)/\Rp w G.F G.St G.Al v.τ v.tg (Z02 (a.tmps.getD i undef)) v.x (G.fs i):=by
 have k:=Z0U (σ:=σ) (i:=i) (by rw[d];simp)
 have u:=I.slot i k;rw[d]at u;obtain⟨n,r⟩:=u;have e:σ.content ⟨false,i,[]⟩=some v:=by simp[State.content,d]
 obtain⟨B,y,m⟩:=I.recontent (p:=⟨false,i,[]⟩) (c':=⟨v.τ,v.ag,v.x,v.tg.map Tag.alias⟩) e rfl rfl (l:=Z02 (a.tmps.getD i undef)) (b:=none) (f':=[]) (fi:=G.fs i)
  rfl (by exact r.alias (Ghost.St_Al I)) (by simp[Ghost.fpOf])
 have q:∀j,(σ.setContent ⟨false,i,[]⟩ ⟨v.τ,v.ag,v.x,v.tg.map Tag.alias⟩).slot j=if i=j then .val ⟨v.τ,v.ag,v.x,v.tg.map Tag.alias⟩ else σ.slot j:=by
  intro j;simp only[State.setContent,d];show Z0u .dead (Z0G σ.slots i _) j=_
  rw[Z0S];by_cases h:i=j<;>simp[h,k,State.slot];intro C;omega
 obtain⟨f,z,_⟩:=y.loosen false i;obtain⟨g,A,_⟩:=z.drop (σ':=σ.empty i) (by simp[State.setContent,State.empty,State.put,State.loosen,Z0b,d,Z0E]) (λj=>by
  rw[Z3r,Z0i,Z0i,q];by_cases h:i=j
  ·simp[h,k];right;intro D;omega
  ·simp[h]) (λj=>by
  left;show σ.boxAt j=_
  simp only[State.setContent,d];rfl)
 exact⟨_,A,(m.trans (Sim.fs _ f)).trans (Sim.fs _ g),n,r⟩
structure Wrote (w w':World)(g:Nat):Prop where
 size:w'.heap.size=w.heap.size
 old:∀b,b≠g->w'.heap[b]? = w.heap[b]?
 os:w'.os=w.os
 tape:w'.tape=w.tape
 output:w'.output=w.output
theorem Inv.patch (I:Inv W0 M σ a w G xs){g:Nat}{z:Who}(k:G.who g=some z)(m:z= .x\/∃i,z= .a i/\σ.boxAt i=none)(f:Wrote w w' g)(n:Nat)
  (T:σ.noN\/(∃i,z= .a i)\/Z07 w G.F w' (λb=>if b=g then n else G.F b) g) :
  let G':Ghost:={ G with F:=λb=>if b=g then n else G.F b }
  Inv W0 M σ a w' G' xs/\((∀i,z≠ .a i)->Z07 w G.F w' G'.F g->Calmer w G w' G') /\
   ∀(τ:Ty) (tg:List Tag) (cs:List Value) (x:El τ) (fp:List Nat),Rp w G.F G.St G.Al τ tg cs x fp->g ∉ fp->((∀t∈tg,t.isN=false)\/(∃i,z= .a i)\/Z07 w G.F w' G'.F g)->Rp w' G'.F G'.St G'.Al τ tg cs x fp:=by
 intro G';have q:∀b,b≠g->Z07 w G.F w' G'.F b/\G'.F b=G.F b:=by
  intro b e;have:G'.F b=G.F b:=QN e;exact⟨Z07.of_block (f.old b e) (by rw[this];exact Qq _),this⟩
 have W:G'.Al=G.Al:=rfl;have E:∀b,G.St b->b≠g:=λb e h=>by rw[h]at e;rw[(I.st g e).1]at k;cases k
 have C:∀b,G.Al b->(∃i,z= .a i)->b≠g:=λb e ⟨i,U⟩ h=>by rw[h]at e;exact e.1 i (by rw[k,U])
 have l:∀ {b},((∃i,z= .a i)\/Z07 w G.F w' G'.F g)->G.Al b->Z07 w G.F w' G'.F b:=by
  intro b h e;by_cases d:b=g
  ·rcases h with h | h
   ·exact absurd d (C b e h)
   ·rw[d];exact h
  ·exact(q b d).1
 have D:Same σ w G w' G':=
  ⟨rfl,rfl,rfl,λ_ _ h _=>h,λ_ _ h=>h,λb h=>h,λb h=>(q b (E b h)).1,λb P h B Q=>q b (λd=>by
    rw[d,k]at h;cases h;rcases m with rfl | ⟨i,rfl,_⟩
    ·exact Q rfl
    ·exact B i rfl),λi v h=>f.old _ (λd=>by
    have K:=(I.box i v h).2;rw[d,k]at K;cases K;rcases m with m | ⟨j,m,V⟩
    ·cases m
    ·cases m;rw[V]at h;cases h),T.imp id λh b _ e=>l h e⟩
 refine⟨?_,?_,?_⟩
 ·refine I.world D (λb e=>⟨(I.st b e).1,by rw[f.size];exact(I.st b e).2⟩) (λb P e=>by rw[f.size];exact I.lt b P e) ?_ I.whoX I.nodX ⟨λb e p=> ?_,I.org.St,I.org.St'⟩
  rotate_left
  ·by_cases d:b=g
   ·rcases (I.lt g z k).2 with h | h
    ·rw[d]at e;omega
    ·exact absurd (d ▸ h) p
   ·rw[(q b d).2];exact I.org.F b e p
  refine⟨f.os.trans I.ext.os,f.tape.trans I.ext.tape,f.output.trans I.ext.output,by rw[f.size];exact I.ext.size,λb e p=> ?_⟩
  rw[f.old b (λd=> ?_)]
  ·exact I.ext.block b e p
  ·rcases (I.lt g z k).2 with h | h
   ·rw[d]at e;omega
   ·exact p (d ▸ h)
 ·intro u R;refine⟨λw2 y=>⟨λb e J o L cs A B=> ?_,λi b e=> ?_⟩,λw2 y i b e=> ?_⟩
  ·have r:=l (.inr R) J;refine y.1 b (by rw[f.size];exact e) J o L cs (Qx A r.1) (r.2.1 o L cs A B)
  ·rw[y.2 i b e];exact f.old b (λd=>by rw[d,k]at e;cases e;exact u i rfl)
  ·rw[y i b e];exact f.old b (λd=>by rw[d,k]at e;cases e;exact u i rfl)
 ·intro τ tg cs x fp h H A;refine h.pres D.St (λb _ h=>h) D.S (λb e=>q b (λd=>H (d ▸ e))) ?_
  exact A.imp id λh b _ e=>l h e
end
end Go.PI
namespace Go.PI
section
variable {W0:Base}{M:Nat->Prop}{σ:State}{a:Act}{w w':World}{G:Ghost}{xs:List Nat}{P:Program}{tys:List (TypeId×Ty×List TypeId)}
theorem Inv.freeze {fv:List Nat}(I:Inv W0 M σ a w G (fv++xs)) :
  ∃G',Inv W0 M σ a w G' xs/\G'.F=G.F/\G'.ad=G.ad/\G'.Al=G.Al/\(∀b k,G'.who b=some (.a k)↔G.who b=some (.a k))/\(∀b,G'.St b↔G.St b\/b∈fv) /\
   (∀(τ:Ty) (tg:List Tag) (cs:List Value) (x:El τ) (fp:List Nat),Rp w G.F G.St G.Al τ tg cs x fp->Rp w G'.F G'.St G'.Al τ tg cs x fp):=by
 classical
 let G':Ghost:={ G with St:=λb=>G.St b\/b∈fv,who:=λb=>if b∈fv then none else G.who b }
 have f:∀b∈fv,G.who b=some .x:=λb e=>I.whoX b (Qh _ e)
 have i:∀b k,G'.who b=some (.a k)↔G.who b=some (.a k):=by
  intro b k;show (if b∈fv then none else G.who b)=some (.a k)↔_
  by_cases e:b∈fv
  ·rw[f b e];simp[e]
  ·simp[e]
 have l:∀b z,G.who b=some z->z≠ .x->G'.who b=some z:=by
  intro b z h n;show (if b∈fv then none else G.who b)=some z
  rw[QN (λj=>by rw[f b j]at h;cases h;exact n rfl)]
  exact h
 have m:G'.Al=G.Al:=by
  funext b;apply propext;show ((∀k,(if b∈fv then none else G.who b)≠some (.a k))/\((if b∈fv then none else G.who b)=none->(G.St b\/b∈fv)))↔_
  by_cases e:b∈fv
  ·simp only[e,XH];have:=f b e;constructor
   ·intro _;exact⟨λk=>(by rw[this];simp),λh=>(by rw[this]at h;cases h)⟩
   ·intro _;exact⟨λk=>(by simp),λh=>(by simp)⟩
  ·simp only[e,XI,YZ];rfl
 have g:Same σ w G w G':=⟨rfl,rfl,rfl,l,λb _ h=>by rw[m];exact h,λb h=> .inl h,λb h=>Z07.refl _ _ _,λb z h _ _=>⟨Z07.refl _ _ _,rfl⟩,λ_ _ _=>rfl,.inr λb _ _=>Z07.refl _ _ _⟩
 refine⟨G',?_,rfl,rfl,m,i,λb=>Iff.rfl,λτ tg cs x fp h=>h.pres g.St g.Al g.S (λb _=>⟨Z07.refl _ _ _,rfl⟩) (.inr λb _ _=>Z07.refl _ _ _)⟩
 refine I.world g (λb e=> ?_) (λb z e=> ?_) I.ext (λb e=> ?_) (Qj.1 I.nodX).2.1 ⟨I.org.F,λb e=> .inl (I.org.St b e),λb e=>e.elim (I.org.St' b) λh=> .inr (I.lt b _ (f b h)).2⟩
 ·rcases e with e | e
  ·have:=I.st b e;refine⟨?_,this.2⟩;show (if b∈fv then none else G.who b)=none
   split
   ·rfl
   ·exact this.1
  ·exact⟨QM e,(I.lt b _ (f b e)).1⟩
 ·change (if b∈fv then none else G.who b)=some z at e
  split at e
  ·cases e
  ·exact I.lt b z e
 ·show (if b∈fv then none else G.who b)=_
  rw[QN (λj=>(Qj.1 I.nodX).2.2 b j b e rfl)]
  exact I.whoX b (Qo _ e)
def Z1n (P:Program)(W0:Base)(M:Nat->Prop)(o:Oper)(a:Act)(w:World)(G:Ghost)(xs:List Nat)(σ':State)(tv:TV)(b:Bool):Prop:=
 ∃v w' G' fp n,(execOp a.eval o).run P w= .ok n w'/\(n= .value v\/(n= .skip/\v=undef))/\Inv W0 M σ' a w' G' (fp++xs)/\Z01 σ' G' a w' tv v fp/\(b=true->Calmer w G w' G')
section
variable {R:Type}{Γ:Env R}{d:Option Nat}{type:TypeId}{o:Oper}{k:TV->State->Option R}{r:R}
theorem Z7P (I:Inv W0 M σ a w G xs){x:Operand}(n:o.op= .assign x)(h:Z0L Γ d type σ k o.op=some r):∃tv σ',k tv σ'=some r/\Z1n P W0 M o a w G xs σ' tv true:=by
 rw[n]at h;simp only[Z0L]at h;have b:(execOp a.eval o).run P w= .ok (.value (a.eval x)) w:=by rw[Z03 n];rfl
 have i:=Z0v I x;have f:∀tv,σ.peek x=tv->(∀v ags,tv≠ .tup v ags)->k tv σ=some r->∃tv σ',k tv σ'=some r/\Z1n P W0 M o a w G xs σ' tv true:=by
  intro tv m j B;rw[m]at i;exact⟨tv,σ,B,a.eval x,w,G,[],_,b,.inl rfl,I,i j,λ_=>Calmer.refl _ _⟩
 split at h
 ·rename_i v g;exact f _ g (by simp) h
 ·rename_i p ag g;split at h
  ·rename_i u L;split at h
   ·rename_i v σ' ht;obtain⟨fp,G',q,C,Q,z,l⟩:=Z0Y I ht;exact⟨_,_,h,a.eval x,w,G',fp,_,b,.inl rfl,q,⟨l,z⟩,λ_=>C.calmer⟩
   ·cases h
  ·cases h
 ·rename_i g;split at h
  ·rename_i e ht;refine⟨_,_,h,a.eval x,w,G,[],_,b,.inl rfl,I,?_,λ_=>Calmer.refl _ _⟩
   rw[g]at i;obtain⟨D,_⟩:=i (by simp)
   rw[D];exact⟨rfl,.O,none,0,rfl,rfl,Qq _,.inl ⟨rfl,rfl,rfl,rfl,rfl⟩⟩
  ·cases h
 ·cases h
 ·cases h
 ·cases h
 ·rename_i F H J K E y;exact f _ rfl (λv ags A=>y v ags A) h
theorem Z8Z (i:Nat)(tv:TV)(v:Value)(Q:Place->Value->Prop):Z1s i (TV.unpoint i (TV.loosen true i tv)) v Q:=by
 cases tv with
 |ref p ag=>
  simp only[TV.loosen];split
  ·trivial
  ·rename_i b;simpa[Z1s,TV.unpoint]using b
 |eref p=>
  simp only[TV.loosen];split
  ·trivial
  ·rename_i b;simpa[Z1s,TV.unpoint]using b
 |ptr p=>
  simp only[TV.loosen,TV.unpoint];split
  ·trivial
  ·rename_i b;intro e;simp[e]at b
 |clos f g=>
  simp only[TV.loosen,TV.unpoint];split
  ·trivial
  ·rename_i b;intro k h e;exact absurd (Yn.2 ⟨g[k],Q7 _,by simp[e]⟩) b
 |_=>trivial
theorem Z66 {fv:List Nat}(I:Inv W0 M σ a w G (fv++xs)){i:Nat}(q:i<σ.slots.length){v:TVal}{t:TypeId}{c:Array Value}(L:Rp w G.F G.St G.Al v.τ v.tg c.toList v.x fv)(u:Pushed w w' (.cells c t (0,0))) :
  ∃G',Inv W0 M (((σ.loosen true i).unpoint i).putBox i (some v)) a w' G' xs/\Calmer w G w' G' /\
   Z01 (((σ.loosen true i).unpoint i).putBox i (some v)) G' a w' (.ptr ⟨true,i,[]⟩) (.pointer (some ⟨w.heap.size,0,none⟩)) []:=by
 obtain⟨H,C,_⟩:=I.loosen true i;obtain⟨l,D,_⟩:=C.unpoint i;obtain⟨y,e,h⟩:=D.grow u (z:= .a i) 0 (ys:=[]) (.inr ⟨⟨i,rfl⟩,rfl⟩);have e:Calmer w G w' (Ghost.grow { G with fs:=l } w.heap.size (.a i) 0):=((Sim.fs G l).calmer).trans e;have p:=h _ _ _ _ _ L;by_cases B:i<σ.boxes.length
 ·obtain⟨G',E,K,U,J,A,n⟩:=Inv.addBox (fv:=fv) (xs:=xs) (i:=i) (g:=w.heap.size) (v:=v) y (by simpa[State.loosen,Z0b,State.unpoint,Z0b]using B) u.new (QM rfl) p (λj V=>by
   rw[Z5h,Z0i];exact Z8Z _ _ _ _) (.inl (by simpa[State.loosen,Z0b,State.unpoint,Z0b]using q))
  refine⟨G',E,e.trans ?_,⟨rfl,rfl,rfl,.inr ⟨c.toList,(w.heap.size,0),⟨v.τ,c.toList,some (w.heap.size,0),?_,?_,Z0O _ _ _ _⟩,rfl⟩⟩⟩
  ·exact⟨λw2 m=>⟨λb f Q=>(by have:=m.1 b f (by rw[J];exact Q);rw[K]at this;exact this),λj b f=>m.2 j b ((A b j).2 f)⟩,λw2 m j b f=>m j b ((A b j).2 f)⟩
  ·rw[Z1o,Z0C];simp[State.loosen,Z0b,State.unpoint,Z0b,B]
  ·simp only[Z09,n,XH,u.new]
 ·have T:((σ.loosen true i).unpoint i).putBox i (some v)=(σ.loosen true i).unpoint i:=by
   unfold State.putBox;rw[Z6t];simp[State.loosen,Z0b,State.unpoint,Z0b];omega
  rw[T];refine⟨_,y.sub (λb f=>by simp[f]) (Qj.1 I.nodX).2.1,e,⟨rfl,rfl,rfl,.inl ?_⟩⟩
  rw[Z1o];have:((σ.loosen true i).unpoint i).boxAt i=none:=Z2e _ _ (by simp[State.loosen,Z0b,State.unpoint,Z0b];omega)
  rw[this];rfl
theorem Z8k (q:Z0e P Γ.tys)(I:Inv W0 M σ a w G xs){t:TypeId}(m:o.op= .alloc t)(h:Z0L Γ d type σ k o.op=some r):∃tv σ',k tv σ'=some r/\Z1n P W0 M o a w G xs σ' tv true:=by
 rw[m]at h;simp only[Z0L]at h;split at h
 ·rename_i i τ ht;split at h
  case isFalse=>cases h
  rename_i e;obtain⟨l,g,_⟩:=Z0Q ht;obtain⟨B,z,y,C,_,_,A,j,_⟩:=(q _ _ _ g).info;have b:(execOp a.eval o).run P w= .ok (.value (.pointer (some ⟨w.heap.size,0,none⟩))) (w.alloc (.cells z.cells t)):=by
   rw[Z03 m];simp[execOp,Instr.alloc,zeroValue,typeInfo,y,A,newVar,newRow]
  have p:Rp w G.F G.St G.Al τ (List.replicate (Z06 τ) .O) z.cells.toList (zero τ) []:=by rw[j];exact Z2Y τ
  obtain⟨G',n,u,f⟩:=Z66 (fv:=[]) (i:=i) (v:=⟨τ,false,zero τ,List.replicate (Z06 τ) .O⟩) (by simpa using I) e p (Pushed.alloc w _)
  exact⟨_,_,h,_,_,G',[],_,b,.inl rfl,by simpa using n,f,λ_=>u⟩
 ·cases h
theorem Z8v {np:Nat}{x:Operand}{τ:Ty}{i:Nat}(h:Z8u np σ x τ=some i):x= .tmp i/\∃u,σ.slot i= .val u/\u.τ=τ:=by
 unfold Z8u at h;split at h
 ·split at h
  ·rename_i u e;split at h
   ·rename_i b;simp only[Q6,Ql]at b;cases h;exact⟨rfl,u,e,b.1.2⟩
   ·cases h
  ·cases h
 ·cases h
theorem Z9b (I:Inv W0 M σ a w G xs){t:TypeId}{x:Operand}(L:o.op= .box t x)(h:Z0L Γ d type σ k o.op=some r):∃tv σ',k tv σ'=some r/\Z1n P W0 M o a w G xs σ' tv true:=by
 rw[L]at h;simp only[Z0L]at h;split at h
 ·rename_i i τ ht;have l:(execOp a.eval o).run P w= .ok (.value (.pointer (some ⟨w.heap.size,0,none⟩))) (w.alloc (.cells (a.eval x).cells t)):=by
   rw[Z03 L];simp[execOp,Instr.box,newVar,newRow]
  split at h
  ·rename_i p y;obtain⟨rfl,u,f,rfl⟩:=Z8v y;have B:=I.slot p (Z0U (by rw[f];simp))
   rw[f]at B;obtain⟨m,A⟩:=B;have D:a.eval (.tmp p)=a.tmps.getD p undef:=rfl;have g:=A.len.1;have Q:=Pushed.alloc w (.cells (a.eval (.tmp p)).cells t (0,0));obtain⟨W,C,_⟩:=I.grow Q (z:= .x) (size u.τ) (ys:=[w.heap.size]) (.inl ⟨rfl,rfl⟩);obtain⟨T,X,J,aa,Y,K,Z,_⟩:=W.freeze;refine⟨_,_,h,_,_,T,[],_,l,.inl rfl,by simpa using X,⟨rfl,rfl,w.heap.size,0,u.τ,rfl,Z1F _,g,?_,(Z _).2 (.inr (by simp)),?_⟩,λ_=>C.trans ?_⟩
   ·unfold Z05;rw[Q.new];simp only[];have e:(a.eval (.tmp p)).cells.toList=Z02 (a.tmps.getD p undef):=by rw[m.cells,D]
    have hsz:(a.eval (.tmp p)).cells.size=size u.τ:=by
     rw[<-g,<-e];simp
    rw[QM (by omega),e,Z4C]
   ·rw[J];show 0+size u.τ<=(if w.heap.size=w.heap.size then size u.τ else G.F w.heap.size)
    rw[QM rfl];omega
   ·exact⟨λw2 n=>⟨λb q ha=>(by have:=n.1 b q (by rw[Y];exact ha);rw[J]at this;exact this),λj b q=>n.2 j b ((K b j).2 q)⟩,λw2 n j b q=>n j b ((K b j).2 q)⟩
  ·split at h
   ·rename_i v σ' H;split at h
    case isFalse=>cases h
    rename_i E;obtain⟨fp,G1,V,B,hτ,A,m⟩:=Z0Y I H;rw[m.cells]at A;obtain⟨G',U,n,f⟩:=Z66 (i:=i) (v:=v) V E A (Pushed.alloc w _);exact⟨_,_,h,_,_,G',[],_,l,.inl rfl,by simpa using U,f,λ_=>B.calmer.trans n⟩
   ·cases h
 ·cases h
end
end
end Go.PI
namespace Go.PI
theorem Z8b:(css:List (List Value))->(s k:Nat)->(rest:List Value)->(b:∀c∈css,c.length=s)->(e:k<css.length)->((css.flatten++rest).drop (k * s)).take s=css[k]
 | [],s,k,rest,b,e=>by simp at e
 |c::css,s,0,rest,b,e=>by
  have:=b c (by simp)
  simp[<-this]
 |c::css,s,k+1,rest,b,e=>by
  have f:=b c (by simp)
  simp only[QO,Qb,Yo];rw[QC,Xg,Nat.add_comm,<-f,List.drop_length_add_append,f];exact Z8b css s k rest (λc' h=>b c' (Qa _ h)) (by simpa using e)
theorem Z42:(css:List (List Value))->(s:Nat)->(b:∀c∈css,c.length=s)->css.flatten.length=css.length * s
 | [],s,b=>by simp
 |c::css,s,b=>by
  simp only[QO,Q5,Q8,Z42 css s (λc' h=>b c' (Qa _ h)),b c (by simp)]
  rw[QC,Xg,Nat.add_comm]
section
variable {W0:Base}{M:Nat->Prop}{σ:State}{a:Act}{w w':World}{G:Ghost}{xs:List Nat}{P:Program}{tys:List (TypeId×Ty×List TypeId)}
theorem Z3w {e:Ty}{fps:List (List Nat)}(I:Inv W0 M σ a w G (fps.flatten++xs)){C:Array Value}{T:TypeId}{fr:Nat×Nat}(m:Pushed w w' (.cells C T fr))(v:Z3Z C fr){t:Tag}(ht:t.own=true)
  {x:List (El e)} {css:List (List Value)} {rest:List Value} {cap:Nat} (B:C.toList=css.flatten++rest) (p:css.length=x.length) (q:fps.length=x.length) (b:x.length<=cap) (y:cap * size e<=C.size)
  (f:∀k (h:k<x.length),Rp w G.F G.St G.Al e (List.replicate (Z06 e) t.inner) (css.getD k []) (x.get ⟨k,h⟩) (fps.getD k []))
  (u:e= .int .u8\/¬ (fr.1<=C.size/\C.size<fr.2):=by first | exact .inl rfl | exact .inr λh=>absurd h.2 (Nat.not_lt_zero _)) :
  ∃G',Inv W0 M σ a w' G' ((w.heap.size::fps.flatten)++xs)/\Calmer w G w' G'/\Rp w' G'.F G'.St G'.Al (.slice e) [t] [.slice (some ⟨w.heap.size,0,none⟩) x.length cap] x (w.heap.size::fps.flatten)/\G'.St=G.St:=by
 obtain⟨A,n,E⟩:=I.grow m (z:= .x) (x.length * size e) (ys:=[w.heap.size]) (.inl ⟨rfl,rfl⟩);have l:∀c∈css,c.length=size e:=by
  intro c n;obtain⟨k,g,rfl⟩:=X2.1 n;have:=(f k (by omega)).len.1
  rw[Qc,Qn g]at this;exact this
 refine⟨_,A,n,?_,rfl⟩;refine⟨t,some ⟨w.heap.size,0,none⟩,cap,rfl,rfl,b,.inr (.inl ⟨ht,w.heap.size,0,fps,rfl,?_,rfl,q,⟨⟨C,T,fr,m.new,by omega,v⟩,u.imp id λh=>⟨C,T,fr,m.new,h⟩⟩,?_,λk g=> ?_⟩)⟩
 ·exact⟨λi h=>(by rw[show (G.grow w.heap.size .x (x.length * size e)).who w.heap.size=some .x from QM rfl]at h;cases h),λh=>(by rw[show (G.grow w.heap.size .x (x.length * size e)).who w.heap.size=some .x from QM rfl]at h;cases h)⟩
 ·show (if w.heap.size=w.heap.size then x.length * size e else _)=_
  rw[QM rfl,Xu]
 ·have j:k<css.length:=by rw[p];exact g
  refine⟨css[k],?_,?_⟩
  ·unfold Z05;rw[m.new];simp only[];have D:(k+1) * size e<=cap * size e:=Qt _ (by have:k<x.length:=g;omega)
   rw[QC,Xg]at D;rw[QM (by omega),B,Xu,Z8b css (size e) k rest l j]
  ·have:=E _ _ _ _ _ (f k g);rw[Qc,Qn j]at this;exact this
theorem Z5z (z:List Value):(n:Nat)->(madeCells z.toArray (n * z.length)).toList=(List.replicate n z).flatten
 | 0=>by simp[madeCells]
 |n+1=>by
  have e:=Z5z z n;have g:(List.range z.length).map (λi=>z.toArray[(n * z.length+i) % z.toArray.size]!)=z:=by
   apply Y0
   ·simp
   ·intro i b f;simp only[Xn,List.getElem_range,QI];rw[Nat.mul_add_mod_self_right,Nat.mod_eq_of_lt (by simpa using b)]
    have:i<z.length:=by simpa using b
    simp[this]
  rw[List.replicate_succ',XZ,<-e];simp only[madeCells,Array.toList_map,Array.toList_range,QO,XT,Qe];rw[QC,Xg,List.range_add,QU,Yq];congr 1
theorem Z7p {α:Type}(n k:Nat)(a d:α)(h:k<n):(List.replicate n a).getD k d=a:=by simp[Qc,h]
theorem Z26 {α:Type}(n k:Nat):(List.replicate n ([]:List α)).getD k []=[]:=by
 rcases Yi k n with h | h
 ·exact Z7p _ _ _ _ h
 ·simp[Qc,h]
theorem Z0D {α:Type}(n:Nat):(List.replicate n ([]:List α)).flatten=[]:=by induction n with
 |zero=>rfl
 |succ n b=>simp[List.replicate_succ,b]
section
variable {R:Type}{Γ:Env R}{d:Option Nat}{type:TypeId}{o:Oper}{k:TV->State->Option R}{r:R}
theorem Z6m (L:Z0e P Γ.tys)(I:Inv W0 M σ a w G xs){t:TypeId}{n c:Operand}(U:o.op= .makeSlice t n c)(h:Z0L Γ d type σ k o.op=some r):∃tv σ',k tv σ'=some r/\Z1n P W0 M o a w G xs σ' tv true:=by
 rw[U]at h;simp only[Z0L]at h;split at h
 ·cases h
 rename_i A;split at h
 ·rename_i e m tg1 f tg2 ht Z Y;rw[cond_eq_ite]at h;split at h
  ·rename_i Q;simp only[Ql]at Q;obtain⟨u,v,K⟩:=Q;have u: @LE.le Int Int.instLEInt 0 m:=u;have v: @LE.le Int Int.instLEInt m f:=v;have K: @LE.le Int Int.instLEInt f 2147483648:=K;obtain⟨et,le,hu,B,_⟩:=Z10 L ht (by simpa using A)
   obtain⟨q,z,X,hs,V,_,hz,p,_⟩:=(L et _ _ B).info;have H:z.cells.toList.length=size e:=by rw[p];exact(Z2Y (w:=w) (F:=G.F) (St:=G.St) (Al:=G.Al) e).len.1
   have D:=Z0P I Z;have E:=Z0P I Y;have l:(execOp a.eval o).run P w= .ok (.value (.slice (some ⟨w.heap.size,0,none⟩) m.toNat f.toNat)) (w.alloc (.cells (madeCells z.cells (f.toNat * size e)) et)):=by
    rw[Z03 U];simp only[execOp,D,E,Sem.run_bind,run_make w t et q z hu X hz .i64 .i64 m f u v (by
     have:(q.bytes:Int) * f<=65536 * f:=Int.mul_le_mul_of_nonneg_right (by omega) (by omega)
     omega) (by omega),hs,Result.andThen_ok,Sem.run_pure]
   have b:=Z5z z.cells.toList f.toNat;rw[H]at b;have i:f.toNat=m.toNat+(f.toNat-m.toNat):=by omega
   rw[i,<-YP,XZ,<-i]at b;obtain⟨G',J,g,y,_⟩:=Z3w (e:=e) (fps:=List.replicate m.toNat []) (xs:=xs) (by rw[Z0D];exact I) (Pushed.alloc w (.cells (madeCells z.cells (f.toNat * size e)) et (0,0))) (λj hj W=>by simp at W) (t:= .O) rfl
    (x:=List.replicate m.toNat (zero e)) (css:=List.replicate m.toNat z.cells.toList) (cap:=f.toNat) b (by simp) (by simp) (by simp;omega) (by rw[size_madeCells];exact Qq _) (λk T=>by
     have C:k<m.toNat:=by simpa using T
     rw[Z7p _ _ _ _ C,Z26,p];have:(List.replicate m.toNat (zero e)).get ⟨k,T⟩=zero e:=by simp
     rw[this];exact Z2Y e)
   rw[Z0D]at J y;refine⟨_,_,h,_,_,G',_,_,l,.inl rfl,J,⟨rfl,?_⟩,λ_=>g⟩
   rw[Z0q rfl];rw[List.length_replicate]at y;exact y
  ·cases h
 ·cases h
end
end
end Go.PI
namespace Go.PI
section
variable {W0:Base}{M:Nat->Prop}{σ:State}{a:Act}{w w':World}{G:Ghost}{xs:List Nat}{P:Program}{tys:List (TypeId×Ty×List TypeId)}
variable {R:Type}{Γ:Env R}{d:Option Nat}{type:TypeId}{o:Oper}{k:TV->State->Option R}{r:R}
theorem Z63 (l:List UInt8):(l.map λb=>[Value.int .u8 (b.toNat:Int)]).flatten=l.map λb=>Value.int .u8 (b.toNat:Int):=by
 induction l with
 |nil=>rfl
 |cons b l e=>simp[e]
theorem Z7b (n:Z0e P Γ.tys)(I:Inv W0 M σ a w G xs){s t:TypeId}{x:Operand}(D:o.op= .convert s t x)(h:Z0L Γ d type σ k o.op=some r):∃tv σ',k tv σ'=some r/\Z1n P W0 M o a w G xs σ' tv true:=by
 rw[D]at h;simp only[Z0L]at h;split at h
 ·cases h
 rename_i g;simp only[Xq,not_or,Bool.not_eq_true]at g;split at h
 ·rename_i b tg H ht F;rw[cond_eq_ite]at h;split at h
  ·have K:=Z25 I F;obtain⟨et,le,J,p,y⟩:=Z10 n ht g.2;have v:le=[]:=y rfl;subst v;have A:=((n et _ _ p).und rfl).1 .u8 rfl;have l:(execOp a.eval o).run P w= .ok (.value (.slice (some ⟨w.heap.size,0,none⟩) (ByteArray.size b) (grownCap w (ByteArray.size b) 0 et)))
     (w.drew.alloc (.cells (bytesRow b (grownCap w (ByteArray.size b) 0 et)) et ((bytesRow b (grownCap w (ByteArray.size b) 0 et)).size,(bytesRow b (grownCap w (ByteArray.size b) 0 et)).size+1))):=by
    rw[Z03 D];simp only[execOp,K,Sem.run_bind,run_bytes_of_string w s t et b (Z1H n H g.1) J A,Result.andThen_ok,Sem.run_pure]
   have q:=grownCap_ge w b.size 0 et;have z:(bytesRow b (grownCap w b.size 0 et)).size=grownCap w b.size 0 et:=by
    have:b.data.size=b.size:=rfl;simp[bytesRow];omega
   have f:(Z1m b).length=b.size:=by simp[Z1m]
   obtain⟨G',B,i,m,_⟩:=Z3w (e:= .int .u8) (fps:=List.replicate b.size []) (xs:=xs) (by rw[Z0D];exact I) (Pushed.drew w (.cells (bytesRow b (grownCap w b.size 0 et)) et ((bytesRow b (grownCap w b.size 0 et)).size,(bytesRow b (grownCap w b.size 0 et)).size+1)))
    (λj L E=>by have:=E.1;simp only at this;omega) (t:= .O) rfl
    (x:=Z1m b) (css:=b.data.toList.map λb=>[Value.int .u8 (b.toNat:Int)]) (rest:=List.replicate (grownCap w b.size 0 et-b.size) (.int .u8 0)) (cap:=grownCap w b.size 0 et) (by
     rw[Z63];simp[bytesRow]) (by simp[Z1m]) (by rw[f];simp) (by rw[f];exact q) (by rw[z];simp[size]) (λk C=>by
     have u:k<b.data.toList.length:=by rw[f]at C;simpa using C
     rw[Z26];refine⟨?_,rfl,rfl⟩;rw[Qc,XO,Qn u];simp[Z1m])
   rw[Z0D]at B m;refine⟨_,_,h,_,_,G',_,_,l,.inl rfl,B,⟨rfl,?_⟩,λ_=>i⟩
   rw[Z0q rfl];rw[f]at m;exact m
  ·cases h
 ·cases h
theorem Z43:(vs:List Value)->(off j:Nat)->(cells:Array Value)->off+j+vs.length<=cells.size ->
  ((vs.zipIdx j).foldl (λ(cs:Array Value) (x:Value×Nat)=>cs.setIfInBounds (off+x.2) x.1) cells).toList=Z0c cells.toList (off+j) vs
 | [],off,j,cells,h=>by simp[Z0c]
 |v::vs,off,j,cells,h=>by
  simp only[Q8]at h;simp only[List.zipIdx_cons,QY];rw[Z43 vs off (j+1) _ (by simp;omega)]
  have f:off+j<cells.toList.length:=by simp;omega
  simp only[Z0c,Array.toList_setIfInBounds,Q8];have b:(cells.toList.set (off+j) v).take (off+(j+1))=cells.toList.take (off+j)++[v]:=by
   rw[show off+(j+1)=(off+j)+1 by omega,List.take_add_one,List.take_set,List.set_eq_of_length_le (by simp;omega),List.getElem?_set_self f]
   rfl
  have e:(cells.toList.set (off+j) v).drop (off+(j+1)+vs.length)=cells.toList.drop (off+j+(vs.length+1)):=by
   rw[show off+(j+1)+vs.length=off+j+(vs.length+1) by omega,List.drop_set_of_lt (by omega)]
  rw[b,e];simp
theorem Z8J {place:Nat->Option (Nat×Nat)}{cells:Array Value}{i:Nat}{v:Value}{rest:List (Nat×Value)}{off size:Nat}(f:place i=some (off,size))(g:v.cells.size=size)(h:off+size<=cells.size) :
  ∃b:Array Value,Instr.fill place cells ((i,v)::rest)=Instr.fill place b rest/\b.toList=Z0c cells.toList off v.cells.toList/\b.size=cells.size:=by
 refine⟨v.cells.zipIdx.foldl (λcs (c,j)=>cs.setIfInBounds (off+j) c) cells,?_,?_,?_⟩
 ·simp only[Instr.fill,f];rw[QN];simp[g];omega
 ·have:=Z43 v.cells.toList off 0 cells (by simp;omega)
  rw[XK]at this;rw[<-this,<-Array.foldl_toList,Array.toList_zipIdx]
 ·have e:(v.cells.zipIdx.foldl (λcs (c,j)=>cs.setIfInBounds (off+j) c) cells).toList.length=cells.toList.length:=by
   have:=Z43 v.cells.toList off 0 cells (by simp;omega)
   rw[XK]at this;rw[<-Array.foldl_toList,Array.toList_zipIdx,this,Z1T];simp;omega
  simpa using e
theorem Z29:{q:List Step}->{τ:Ty}->{x:El τ}->{tg:List Tag}->{u:TVal}->Z08 q=true->Z04 τ x tg q=some u->∃g,Z0d τ q=some g
 | [],τ,_,_,_,_,_=>⟨τ,Z1F τ⟩
 |.fst::p,.pair a b,x,tg,u,e,h=>Z29 (q:=p) (τ:=a) e h
 |.snd::p,.pair a b,x,tg,u,e,h=>Z29 (q:=p) (τ:=b) e h
 |.idx _::_,_,_,_,_,e,_=>by simp[Z08]at e
 |.fst::_,.int _,_,_,_,_,h=>by simp[Z04]at h
 |.fst::_,.bool,_,_,_,_,h=>by simp[Z04]at h
 |.fst::_,.str,_,_,_,_,h=>by simp[Z04]at h
 |.fst::_,.unit,_,_,_,_,h=>by simp[Z04]at h
 |.fst::_,.slice _,_,_,_,_,h=>by simp[Z04]at h
 |.snd::_,.int _,_,_,_,_,h=>by simp[Z04]at h
 |.snd::_,.bool,_,_,_,_,h=>by simp[Z04]at h
 |.snd::_,.str,_,_,_,_,h=>by simp[Z04]at h
 |.snd::_,.unit,_,_,_,_,h=>by simp[Z04]at h
 |.snd::_,.slice _,_,_,_,_,h=>by simp[Z04]at h
theorem Z79 {n:Nat}{place:Nat->Option (Nat×Nat)}{τ:Ty}(V:∀i J,Z0d τ (Z0a n i)=some J->i<n->place i=some (Z0g τ (Z0a n i),size J)) :
  (K:List (Nat×Operand))->(m:∀p∈K,p.1<n)->(v:TVal)->(H:v.τ=τ)->(σ:State)->(G:Ghost)->(fp:List Nat)->(cells:Array Value)->(kk:TVal->State->Option R)->(I:Inv W0 M σ a w G (fp++xs)) ->
  (hR:Rp w G.F G.St G.Al v.τ v.tg cells.toList v.x fp)->(h:Z6W n K v σ kk=some r) ->
  ∃A σ' G' l e,kk A σ'=some r/\Instr.fill place cells (K.map λp=>(p.1,a.eval p.2))=some e/\A.τ=τ/\A.ag=v.ag/\Inv W0 M σ' a w G' (l++xs)/\Sim G G'/\Rp w G'.F G'.St G'.Al A.τ A.tg e.toList A.x l
 | [],m,v,H,σ,G,fp,cells,kk,I,hR,h=>⟨v,σ,G,fp,cells,h,rfl,H,rfl,I,Sim.refl _,hR⟩
 |(i,op)::K,m,v,H,σ,G,fp,cells,kk,I,hR,h=>by
  simp only[Z6W]at h;split at h
  ·rename_i u hu;split at h
   ·rename_i y σ1 htk;split at h
    ·rename_i rr W;obtain⟨g,G1,I1,hs,hτ,C,hsh⟩:=Z0Y I htk;have B:Rp w G1.F G1.St G1.Al v.τ v.tg cells.toList v.x fp:=by rw[hs.F,hs.St,hs.Al];exact hR
     have T:=Z2O n i;obtain⟨J,E⟩:∃J,Z0d v.τ (Z0a n i)=some J:=Z29 T hu;obtain⟨u',Y,hut⟩:=Z3b (x:=v.x) (tg:=v.tg) E;rw[hu]at Y;cases Y;obtain⟨hlc,hle⟩:=Z0T (w:=w) (cs:=cells.toList) (base:=(none:Option (Nat×Nat))) E B.len.1;obtain⟨f1,fi,f2,e1,e2,e3,e4,e5⟩:=Rp.flatLens T B hlc hu;rw[hsh.cells]at C;have q:=e5 y _ g rr.1 rr.2 W hτ C;have Z:(a.eval op).cells.size=size J:=by
      have:=C.len.1;rw[hτ,hut]at this;simpa using this
     have L:cells.size=size v.τ:=by have:=B.len.1;simpa using this
     obtain⟨j,hf1,hf2,hf3⟩:=Z8J (place:=place) (cells:=cells) (i:=i) (v:=a.eval op) (rest:=K.map λp=>(p.1,a.eval p.2)) (V i J (by rw[<-H];exact E) (m (i,op) (by simp))) Z (by rw[<-H,L];exact hle)
     have Q:j.toList=Z0c cells.toList (Z0g v.τ (Z0a n i)) (a.eval op).cells.toList:=by rw[hf2,H]
     rw[<-Q]at q;have U:(g++(fp++xs)).Nodup:=I1.nodX;have X:∀b∈f1++g++f2++xs,b∈g++(fp++xs):=by
      rw[e1];intro b D;simp only[Qr]at D ⊢;rcases D with ((D | D) | D) | D<;>simp[D]
     have hnd:(f1++g++f2++xs).Nodup:=by
      have hp:((f1++g++f2++xs)++fi).Perm (g++(fp++xs)):=by
       rw[e1];refine QZ.2 λz=> ?_
       simp only[XA];omega
      exact(Qj.1 (hp.nodup_iff.2 U)).1
     obtain⟨A,σ',G',l,e,h1,h2,h3,h4,h5,h6,h7⟩:=Z79 V K (λp hp=>m p (Qa _ hp)) ⟨v.τ,v.ag,rr.1,rr.2⟩ H σ1 G1 (f1++g++f2) j kk (I1.sub X hnd) q h
     exact⟨A,σ',G',l,e,h1,by rw[Qz,hf1];exact h2,h3,h4,h5,hs.trans h6,h7⟩
    ·cases h
   ·cases h
  ·cases h
end
end Go.PI
namespace Go.PI
theorem Z7h {α β:Type}(f:α->Option β):(l:List α)->(∀x∈l,∃y,f x=some y)->∃r:List β,l.mapM f=some r/\∀i:Nat,r[i]? = l[i]?.bind f
 | [],_=>⟨[],rfl,λi=>rfl⟩
 |x::l,h=>by
  obtain⟨y,b⟩:=h x (by simp)
  obtain⟨r,g,e⟩:=Z7h f l λz j=>h z (Qa _ j)
  refine⟨y::r,by simp[List.mapM_cons,b,g],λi=> ?_⟩
  cases i with
  |zero=>simp[b]
  |succ i=>simpa using e i
section
variable {W0:Base}{M:Nat->Prop}{σ:State}{a:Act}{w w':World}{G:Ghost}{xs:List Nat}{P:Program}{tys:List (TypeId×Ty×List TypeId)}
variable {R:Type}{Γ:Env R}{d:Option Nat}{type:TypeId}{o:Oper}{k:TV->State->Option R}{r:R}
theorem Z8l (C:Z0e P Γ.tys)(I:Inv W0 M σ a w G xs){t:TypeId}{ps:Array (Nat×Operand)}(ho:o.op= .build t ps)(h:Z0L Γ d type σ k o.op=some r):∃tv σ',k tv σ'=some r/\Z1n P W0 M o a w G xs σ' tv true:=by
 rw[ho]at h;simp only[Z0L]at h;split at h
 ·rename_i τ l v;split at h
  ·cases h
  rename_i hc;simp only[Xq,not_or,Bool.not_eq_true,Xa,QD,Ql]at hc;obtain⟨hl,Y⟩:=hc;have V:l≠[]:=by rintro rfl;simp at hl
  obtain⟨inf,z,hi,hs,_,_,hz,Z,_⟩:=(C _ _ _ v).info;obtain⟨m,hu,u,hf,_⟩:=(C _ _ _ v).str V;have Q:∀f∈m.toList,∃y,(λf:Field=>(P.info? f.type).map λi=>(f.offset,i.size)) f=some y:=by
   intro f L;obtain⟨i,T,rfl⟩:=X2.1 L;obtain⟨f',D,lf,j,H,J,n,p,K,_⟩:=(hf i (by rw[<-u];simpa using T)).out
   obtain⟨B,z',q,h8,_⟩:=(C _ _ _ p).info;have:m.toList[i]=f':=by
    have:m[i]? = some m.toList[i]:=by rw[<-QK];simp
    rw[this]at j;cases j;rfl
   rw[this];exact⟨_,by simp only[q];rfl⟩
  obtain⟨e,X,W⟩:=Z7h _ _ Q;have g:∀i D,Z0d τ (Z0a l.length i)=some D->i<l.length->e.toArray[i]? = some (Z0g τ (Z0a l.length i),size D):=by
   intro i D A U;obtain⟨f',τf',lf,j,H,J,n,p,K,_⟩:=(hf i U).out;rw[A]at n;cases n;obtain⟨B,z',q,h8,_⟩:=(C _ _ _ p).info;have:=W i;have F:m.toList[i]? = some f':=by rw[QK];exact j
   rw[F]at this;simp only[Option.bind_some,q,XU]at this;rw[List.getElem?_toArray,this,J,h8]
  obtain⟨v',σ',G',E,b,j,H,J,n,p,K,q⟩:=Z79 (place:=(e.toArray[·]?)) g ps.toList Y ⟨τ,true,zero τ,List.replicate (Z06 τ) .O⟩ rfl σ G [] z.cells _ (by simpa using I) (by rw[Z];exact Z2Y τ) h
  have hb:P.built t (ps.map λ(i,x)=>(i,a.eval x)).toList=some b:=by
   unfold Program.built;simp only[hi,hu,hz,X];rw[Array.toList_map];exact H
  refine⟨_,_,j,.agg b,w,G',E,_,?_,.inl rfl,p,⟨?_,?_⟩,λ_=>K.calmer⟩
  ·rw[Z03 ho];simp only[execOp,Sem.run_bind,run_build w t _ b hb,Result.andThen_ok,Sem.run_pure]
  ·rw[n];exact⟨_,rfl⟩
  ·exact q
 ·cases h
def Z17 (t0 t:Tag):Prop:=t0.over.inner= .N\/(t0.over.inner= .S/\t.isN=false)\/(t0= .O/\t= .O)
theorem Z17.meet_left {b e t:Tag}(h:Z17 b t):Z17 (b.meet e) t:=by
 cases b<;>cases e<;>cases t<;>simp_all[Z17,Tag.meet,Tag.over,Tag.inner,Tag.isN]
theorem Z17.meet_right {e b t:Tag}(h:Z17 b t):Z17 (e.meet b) t:=by
 cases e<;>cases b<;>cases t<;>simp_all[Z17,Tag.meet,Tag.over,Tag.inner,Tag.isN]
theorem Z17.self (t:Tag):Z17 t t:=by
 cases t<;>simp[Z17,Tag.over,Tag.inner,Tag.isN]
theorem Z7Q {v:TVal}:∀t∈v.tg,Z17 (Z4y v) t:=by
 unfold Z4y;generalize v.tg=l;induction l with
 |nil=>intro t h;simp at h
 |cons s l b=>
  intro t h;simp only[List.foldr_cons];rcases Qp.1 h with rfl | h
  ·exact(Z17.self _).meet_left
  ·exact(b t h).meet_right
theorem Z17.weak {t0 t:Tag}{St:Nat->Prop}{fp:List Nat}(h:Z17 t0 t)(f:t0≠ .O)(e:t0.over.inner= .S->∀b∈fp,St b):Tag.weak St fp t t0.over.inner:=by
 rcases h with h | ⟨h,g⟩ | ⟨h,_⟩
 ·rw[h];cases t<;>simp[Tag.weak]
 ·rw[h];have:=e h;cases t<;>simp_all[Tag.weak,Tag.isN]
 ·exact absurd h f
end
end Go.PI
namespace Go.PI
structure Elem (e:Ty) where
 x:El e
 tg:List Tag
 cs:List Value
 fp:List Nat
section
variable {W0:Base}{M:Nat->Prop}{σ:State}{a:Act}{w w':World}{G:Ghost}{xs:List Nat}{P:Program}{tys:List (TypeId×Ty×List TypeId)}
variable {R:Type}{Γ:Env R}{d:Option Nat}{type:TypeId}{o:Oper}{k:TV->State->Option R}{r:R}
def Elem.Ok {e:Ty}(w:World)(G:Ghost)(t0:Tag)(u:Elem e):Prop:=Rp w G.F G.St G.Al e u.tg u.cs u.x u.fp/\∀t∈u.tg,Z17 t0 t
theorem Inv.perm {ys:List Nat}(I:Inv W0 M σ a w G xs)(h:xs.Perm ys):Inv W0 M σ a w G ys:=
 I.sub (λb e=>h.symm.subset e) (h.nodup_iff.1 I.nodX)
theorem Z6v {e:Ty}{t0:Tag}{us:List (Elem e)}(I:Inv W0 M σ a w G ((us.map (·.fp)).flatten++xs))(h:∀u∈us,u.Ok w G t0) :
  ∃(G':Ghost) (fps:List (List Nat)),Inv W0 M σ a w G' (fps.flatten++xs)/\Calmer w G w G'/\G'.F=G.F/\fps.length=us.length/\(∀b,G.St b->G'.St b)/\G'.Al=G.Al /\
   (∀k (l:k<us.length),Rp w G'.F G'.St G'.Al e (List.replicate (Z06 e) t0.over.inner) us[k].cs us[k].x (fps.getD k [])) /\
   (∀(τ:Ty) (tg:List Tag) (cs:List Value) (x:El τ) (fp:List Nat),Rp w G.F G.St G.Al τ tg cs x fp->Rp w G'.F G'.St G'.Al τ tg cs x fp)/\(∀b∈fps.flatten,b∈(us.map (·.fp)).flatten):=by
 by_cases H:t0= .O
 ·subst H;refine⟨G,us.map (·.fp),I,Calmer.refl _ _,rfl,by simp,λ_ h=>h,rfl,λk l=> ?_,λ_ _ _ _ _ h=>h,λ_ h=>h⟩
  obtain⟨j,A⟩:=h us[k] (Q7 _);have:us[k].tg=List.replicate (Z06 e) .O:=by
   rw[List.eq_replicate_iff];refine⟨j.len.2,λt ht=> ?_⟩
   rcases A t ht with p | ⟨p,_⟩ | ⟨_,p⟩
   ·simp[Tag.over,Tag.inner]at p
   ·simp[Tag.over,Tag.inner]at p
   ·exact p
  rw[this]at j;rw[Qc,XO,Qn l];exact j
 ·have m:∀k,(List.replicate us.length ([]:List Nat)).getD k []=[]:=λk=>Z26 _ _
  have g:∀ {St':Nat->Prop},(∀b,G.St b->St' b)->(t0.over.inner= .S->∀b∈(us.map (·.fp)).flatten,St' b)->∀k (l:k<us.length),Rp w G.F St' G.Al e (List.replicate (Z06 e) t0.over.inner) us[k].cs us[k].x []:=by
   intro St' C D k l;obtain⟨j,A⟩:=h us[k] (Q7 _);refine j.weaken C (Ghost.St_Al I) (by simp[j.len.2]) λi V Q=> ?_
   rw[List.getElem_replicate];exact(A _ (Q7 _)).weak H λB b f=>D B b (X3.2 ⟨_,X6.2 ⟨us[k],Q7 _,rfl⟩,f⟩)
  by_cases B:t0.over.inner= .S
  ·obtain⟨G',J,y,K,v,E,z,T⟩:=I.freeze;refine⟨G',List.replicate us.length [],by rw[Z0D];exact J,?_,y,by simp,λb f=>(z b).2 (.inl f),v,λk l=> ?_,T,λb f=>by rw[Z0D]at f;cases f⟩
   ·exact⟨λw2 q=>⟨λb f L o n cs U j=>q.1 b f (by rw[v];exact L) o n cs (by rw[y];exact U) j,λi b f=>q.2 i b ((E b i).2 f)⟩,λw2 q i b f=>q i b ((E b i).2 f)⟩
   ·rw[m,y,v];exact g (λb f=>(z b).2 (.inl f)) (λ_ b f=>(z b).2 (.inr f)) k l
  ·refine⟨G,List.replicate us.length [],by rw[Z0D];exact I.sub (λb f=>Qo _ f) (Qj.1 I.nodX).2.1,Calmer.refl _ _,rfl,by simp,λ_ h=>h,rfl,λk l=> ?_,λ_ _ _ _ _ h=>h,λb f=>by rw[Z0D]at f;cases f⟩
   rw[m];exact g (λ_ h=>h) (λh=>absurd h B) k l
theorem Z7t {e:Ty}:(q:List (Nat×Operand))->(i:Nat)->(f:List (El e))->(t:Tag)->(σ:State)->(G:Ghost)->(us:List (Elem e))->(B:List (El e)->Tag->State->Option R)->(g:us.length=i)->(b:f.reverse=us.map (·.x)) ->
  (I:Inv W0 M σ a w G ((us.map (·.fp)).flatten++xs))->(l:∀u∈us,u.Ok w G t)->(h:Z7s e q i f t σ B=some r) ->
  ∃(vs:List (Elem e)) (t':Tag) (σ':State) (G':Ghost),B ((us++vs).map (·.x)) t' σ'=some r/\vs.length=q.length/\(q.map λp=>(p.1,a.eval p.2))=(((q.map λp=>a.eval p.2).zipIdx i).map λx=>(x.2,x.1)) /\
   (q.map λp=>(a.eval p.2).cells.toList)=vs.map (·.cs)/\Inv W0 M σ' a w G' (((us++vs).map (·.fp)).flatten++xs)/\Sim G G'/\(∀u∈us++vs,u.Ok w G' t')
 | [],i,f,t,σ,G,us,B,g,b,I,l,h=>by
  simp only[Z7s]at h;rw[b]at h;exact⟨[],t,σ,G,by simpa using h,rfl,rfl,rfl,by simpa using I,Sim.refl _,by simpa using l⟩
 |(j,K)::q,i,f,t,σ,G,us,B,g,b,I,l,h=>by
  simp only[Z7s]at h;split at h
  ·rename_i n;have n:i=j:=by simpa using n
   subst n;split at h
   ·rename_i v W H;split at h
    ·rename_i x hx;obtain⟨fp,Q,X,C,U,T,E⟩:=Z0Y I H;obtain⟨V,L,y,m⟩:=v;simp only at U;subst U;have J:y=x:=by simpa[Z2G]using hx
     subst J;rw[E.cells]at T;have D:Inv W0 M W a w Q (((us++[(⟨y,m,(a.eval K).cells.toList,fp⟩:Elem V)]).map (·.fp)).flatten++xs):=by
      refine X.perm (QZ.2 λz=> ?_)
      simp only[QU,XZ,Qz,Yh,QO,XT,Qe,XA];omega
     obtain⟨vs,t',σ',G',Y,Z,h3,h4,h5,h6,h7⟩:=Z7t q (i+1) (y::f) (t.meet (Z4y ⟨V,L,y,m⟩)) W Q (us++[⟨y,m,(a.eval K).cells.toList,fp⟩]) B (by simp[g]) (by simp[b]) D (λu A=>by
      rcases Qr.1 A with A | A
      ·obtain⟨q1,q2⟩:=l u A;exact⟨by rw[C.F,C.St,C.Al];exact q1,λt ht=>(q2 t ht).meet_left⟩
      ·rw[QB.1 A];exact⟨T,λt ht=>(Z7Q t ht).meet_right⟩) h
     refine⟨⟨y,m,(a.eval K).cells.toList,fp⟩::vs,t',σ',G',by simpa using Y,by simp[Z],?_,by simp[h4],by simpa using h5,C.trans h6,by simpa using h7⟩
     simp only[Qz,List.zipIdx_cons];rw[h3]
    ·cases h
   ·cases h
  ·cases h
end
end Go.PI
namespace Go.PI
section
variable {W0:Base}{M:Nat->Prop}{σ:State}{a:Act}{w w':World}{G:Ghost}{xs:List Nat}{P:Program}{tys:List (TypeId×Ty×List TypeId)}
variable {R:Type}{Γ:Env R}{d:Option Nat}{type:TypeId}{o:Oper}{k:TV->State->Option R}{r:R}
theorem Z9h (b:Z0e P tys){t:TypeId}{τ:Ty}{l:List TypeId}(h:Z0o tys t=some (τ,l)):0<size τ:=by
 cases l with
 |nil=>rw[Z1S b h];omega
 |cons c l=>
  obtain⟨j,v,e,i,_⟩:=(b _ _ _ h).str (by simp)
  obtain⟨f',z,y,m,n,p,g,q,u,_⟩:=(i 0 (by simp)).out
  have:=(Z0T (w:=default) (cs:=List.replicate (size τ) undef) (base:=none) g (by simp)).2
  omega
theorem Z5V (V:Z0e P Γ.tys)(I:Inv W0 M σ a w G xs){t:TypeId}{n:Nat}{b:Array (Nat×Operand)}(ho:o.op= .buildSlice t n b)(h:Z0L Γ d type σ k o.op=some r):∃tv σ',k tv σ'=some r/\Z1n P W0 M o a w G xs σ' tv true:=by
 rw[ho]at h;simp only[Z0L]at h;split at h
 ·rename_i e ht;split at h
  ·rename_i L;simp only[Q6,QG,QF,Ql]at L;obtain⟨⟨hn,W⟩,hlim⟩:=L;subst hn;obtain⟨et,le,m,D,_⟩:=Z10 V ht W;obtain⟨f,z,hi,hs,_,_,hz,hzc,_⟩:=(V et _ _ D).info;have F:=Z9h V D;obtain⟨vs,t',σ',G1,h1,T,h3,h4,I1,J,A⟩:=Z7t (a:=a) (w:=w) b.toList 0 [] .O σ G [] _ rfl rfl (by simpa using I) (by simp) h
   simp only[Qk]at h1 I1 A;obtain⟨G2,fps,I2,q,gF,Y,gS,gA,X,Z,_⟩:=Z6v I1 A;have K:∀u∈vs,u.cs.length=size e:=λu m=>(A u m).1.len.1
   have hvz:∀v∈b.toList.map (λp=>a.eval p.2),v.cells.size=size e:=by
    intro v hv;obtain⟨p,hp,rfl⟩:=X6.1 hv;have:(a.eval p.2).cells.toList∈vs.map (·.cs):=by rw[<-h4];exact X6.2 ⟨p,hp,rfl⟩
    obtain⟨u,m,he⟩:=X6.1 this;have:=K u m;rw[he]at this;simpa using this
   have hC:((b.toList.map λp=>a.eval p.2).flatMap λv=>v.cells.toList)=(vs.map (·.cs)).flatten:=by
    rw[<-h4,List.flatMap_def,Yq];rfl
   have B:((b.toList.map λp=>a.eval p.2).flatMap λv=>v.cells.toList).length=b.size * size e:=by
    rw[hC,Z42 _ (size e) (by intro c L;obtain⟨u,m,rfl⟩:=X6.1 L;exact K u m)]
    simp[T]
   have y:∀C:Array Value,C.size=b.size * f.size->Instr.fill (λi=>some (i * f.size,f.size)) C (b.map λ(i,x)=>(i,a.eval x)).toList=some ((b.toList.map λp=>a.eval p.2).flatMap λv=>v.cells.toList).toArray:=by
    intro C U;have:=Great.fill_whole (s:=f.size) (by rw[hs];exact F) (b.toList.map λp=>a.eval p.2) C (by rw[hs];exact hvz) (by rw[U];simp)
    rw[Array.toList_map];rw[<-h3]at this;exact this
   have H:(execOp a.eval o).run P w= .ok (.value (.slice (some ⟨w.heap.size,0,none⟩) b.size b.size)) (w.alloc (.cells ((b.toList.map λp=>a.eval p.2).flatMap λv=>v.cells.toList).toArray et)):=by
    rw[Z03 ho];simp only[execOp,Sem.run_bind];by_cases h0:b.size=0
    ·have ab:b= #[]:=by simpa using h0
     subst ab;simp[Instr.buildSlice,run_underlying m,sizeOf,typeInfo,hi,newRow,Instr.fill,Array.range_zero']
    ·have Q:¬ b.size * f.size=0:=by
      have:=Nat.mul_ne_zero h0 (show f.size≠0 by omega);exact this
     rw[run_buildSlice w t et b.size _ _ f z m hi hz (by rw[hs];omega) Q (y _ (by simp))]
     rfl
   obtain⟨G3,I3,g,hR,_⟩:=Z3w (e:=e) (fps:=fps) (xs:=xs) I2 (Pushed.alloc w (.cells ((b.toList.map λp=>a.eval p.2).flatMap λv=>v.cells.toList).toArray et (0,0))) (λj hj hh=>by simp at hh) (t:=t'.over) (by cases t'<;>rfl)
    (x:=vs.map (·.x)) (css:=vs.map (·.cs)) (rest:=[]) (cap:=b.size) (by simp[hC]) (by simp) (by simp[Y]) (by simp[T]) (by simp only[QI];exact Nat.le_of_eq B.symm) (λk hk=>by
     have E:k<vs.length:=by simpa using hk
     have:=X k E;rw[Qc (l:=vs.map (·.cs)),XO,Qn E];simpa using this)
   refine⟨_,_,h1,_,_,G3,_,_,H,.inl rfl,I3,⟨rfl,?_⟩,λ_=>(J.calmer.trans q).trans g⟩
   rw[Z0q rfl];have aa:(vs.map (·.x)).length=b.size:=by simp[T]
   rw[aa]at hR;exact hR
  ·cases h
 ·cases h
end
end Go.PI
namespace Go.PI
theorem Z8O {v:Value}(h:one v=true):v.oneCell'=true:=by cases v<;>simp_all[one,Value.oneCell']
theorem Z3L:{q:List Step}->{τ:Ty}->{x:El τ}->{tg:List Tag}->{v:TVal}->{r:El τ×List Tag}->Z0I τ x tg q v=some r->∃u,Z04 τ x tg q=some u/\u.τ=v.τ
 | [],τ,x,tg,v,r,h=>by
  refine⟨_,Z3H,?_⟩;have:v.τ=τ:=by
   cases τ<;>(simp only[Z0I]at h;split at h<;>first | assumption | cases h)
  exact this.symm
 |.fst::p,.pair a b,x,tg,v,r,h=>by
  simp only[Z0I]at h;obtain⟨_,f,_⟩:=Qm.1 h;exact Z3L (q:=p) (τ:=a) f
 |.snd::p,.pair a b,x,tg,v,r,h=>by
  simp only[Z0I]at h;obtain⟨_,f,_⟩:=Qm.1 h;exact Z3L (q:=p) (τ:=b) f
 |.idx i::p,.slice e,x,tg,v,r,h=>by
  simp only[Z0I]at h;obtain⟨_,f,_⟩:=Qm.1 h;exact Z3L (q:=p) (τ:=e) f
 |.idx _::_,.int _,_,_,_,_,h=>by simp[Z0I]at h
 |.idx _::_,.bool,_,_,_,_,h=>by simp[Z0I]at h
 |.idx _::_,.str,_,_,_,_,h=>by simp[Z0I]at h
 |.idx _::_,.unit,_,_,_,_,h=>by simp[Z0I]at h
 |.idx _::_,.pair _ _,_,_,_,_,h=>by simp[Z0I]at h
 |.fst::_,.int _,_,_,_,_,h=>by simp[Z0I]at h
 |.fst::_,.bool,_,_,_,_,h=>by simp[Z0I]at h
 |.fst::_,.str,_,_,_,_,h=>by simp[Z0I]at h
 |.fst::_,.unit,_,_,_,_,h=>by simp[Z0I]at h
 |.fst::_,.slice _,_,_,_,_,h=>by simp[Z0I]at h
 |.snd::_,.int _,_,_,_,_,h=>by simp[Z0I]at h
 |.snd::_,.bool,_,_,_,_,h=>by simp[Z0I]at h
 |.snd::_,.str,_,_,_,_,h=>by simp[Z0I]at h
 |.snd::_,.unit,_,_,_,_,h=>by simp[Z0I]at h
 |.snd::_,.slice _,_,_,_,_,h=>by simp[Z0I]at h
section
variable {W0:Base}{M:Nat->Prop}{σ:State}{a:Act}{w w':World}{G:Ghost}{xs:List Nat}{P:Program}{tys:List (TypeId×Ty×List TypeId)}
variable {R:Type}{Γ:Env R}{d:Option Nat}{type:TypeId}{o:Oper}{k:TV->State->Option R}{r:R}
theorem Z3o {p:Place}{c c':TVal}(b:σ.content p=some c)(g:c'.τ=c.τ)(q:Place):(σ.setContent p c').ct q=σ.ct q:=by
 obtain⟨j,r,path⟩:=p;obtain⟨i,l,n⟩:=q;cases j with
 |true=>
  simp only[State.content]at b;cases i with
  |true=>
   rw[Z1o,Z1o];simp only[State.setContent,State.boxAt]at *;rw[Z0S];split
   ·rename_i h;obtain⟨rfl,_⟩:=h;rw[b];simp[g]
   ·rfl
  |false=>rfl
 |false=>
  cases i with
  |true=>
   rw[Z1o,Z1o];simp only[State.setContent];split<;>rfl
  |false=>
   rw[Z1k,Z1k,Z0M b];by_cases e:r=l/\r<σ.slots.length
   ·rw[QM e];obtain⟨rfl,m⟩:=e;simp only[State.content]at b;split at b
    ·rename_i v f;cases b;simp[f,g]
    ·rename_i v ags f;cases b;simp[f,g]
    ·cases b
   ·rw[QN e]
theorem Z2z {x:Operand}{τ:Ty}{v:TVal}{σ':State}(h:σ.take x τ=some (v,σ'))(q:Place):σ'.ct q=σ.ct q:=by
 unfold State.take at h;split at h
 ·split at h
  ·cases h;rfl
  ·cases h
 ·split at h
  ·cases h;rfl
  ·cases h
 ·split at h
  ·split at h
   ·split at h
    ·obtain⟨σ2,b,g⟩:=Qm.1 h;cases g;unfold State.setAt at b;obtain⟨c,f,e⟩:=Yj.1 b;obtain⟨r,i,rfl⟩:=Qm.1 e;exact Z3o (c':=⟨c.τ,c.ag,r.1,r.2⟩) f rfl q
    ·cases h;rfl
   ·cases h
  ·cases h
 ·cases h
theorem Z0w.sim {σ':State}{G':Ghost}(e:∀q,σ'.ct q=σ.ct q)(f:G'.ad=G.ad){p:Place}{u:Value}(h:Z0w σ G a w p u):Z0w σ' G' a w p u:=by
 rcases h with h | ⟨cs,b,⟨τ,l,i,j,g,m⟩,n⟩
 ·exact .inl ((e p).trans h)
 ·exact .inr ⟨cs,b,⟨τ,l,i,(e p).trans j,by unfold Z09 at g ⊢;rw[f];exact g,m⟩,n⟩
theorem Z3n (P:Program)(g o:Nat)(t:TypeId)(fz:Nat×Nat):∀(vs:List Value) (i:Nat) (cur:Array Value) (w:World),w.heap[g]? = some (.cells cur t fz)->Z3Z cur fz->o+i+vs.length<=cur.size->(∀v∈vs,one v=true) ->
  (storeCells ⟨g,o,none⟩ vs i).run P w= .ok () (w.setRow g (Z0c cur.toList (o+i) vs).toArray)
 | [],i,cur,w,e,_,_,_=>by
  simp only[storeCells,Z0c,Qe,QE,XK,XB,Array.toArray_toList];rw[setRow_self w g cur t fz e];rfl
 |v::rest,i,cur,w,e,l,B,n=>by
  simp only[Q8]at B;have p:o+i<cur.size:=by omega
  have f:(⟨g,o,none⟩:Addr).add i=⟨g,o+i,none⟩:=by unfold Addr.add;split<;>simp_all
  have b:w.cell? ⟨g,o+i,none⟩=some cur[o+i]:=by simp[World.cell?,e,p]
  have h:w.frozen? ⟨g,o+i,none⟩=false:=by
   have:=l (o+i) p;obtain⟨E,A⟩:=fz;simp only[World.frozen?,e,Bool.and_eq_false_iff,Xk];simp only at this;by_cases m:E<=o+i
   ·exact .inr λz=>this ⟨m,z⟩
   ·exact .inl m
  have u:(store ((⟨g,o,none⟩:Addr).add i) v).run P w= .ok () (w.setRow g (cur.setIfInBounds (o+i) v)):=by
   rw[f,run_store P w _ v _ (Z8O (n v (by simp))),b]
   simp[h,setCell_eq_setRow w g (o+i) cur t fz v e]
  have D:=Z3n P g o t fz rest (i+1) (cur.setIfInBounds (o+i) v) (w.setRow g (cur.setIfInBounds (o+i) v)) (setRow_heap w g cur _ t _ e) (λj q=>l j (by simpa using q)) (by simp;omega) (λx C=>n x (by simp[C]))
  simp only[storeCells,Sem.run_bind,u,Result.andThen_ok,D,setRow_setRow];congr 3;have q:o+i<cur.toList.length:=by simpa using p
  simp only[Z0c,Array.toList_setIfInBounds,Q8];have n:(cur.toList.set (o+i) v).take (o+(i+1))=cur.toList.take (o+i)++[v]:=by
   rw[show o+(i+1)=(o+i)+1 by omega,List.take_add_one,List.take_set,List.set_eq_of_length_le (by simp;omega),List.getElem?_set_self q]
   rfl
  have y:(cur.toList.set (o+i) v).drop (o+(i+1)+rest.length)=cur.toList.drop (o+i+(rest.length+1)):=by
   rw[show o+(i+1)+rest.length=o+i+(rest.length+1) by omega,List.drop_set_of_lt (by omega)]
  rw[n,y];simp
theorem Z48 (f:Z0e P tys){t:TypeId}{τ:Ty}{l:List TypeId}(ht:Z0o tys t=some (τ,l)){g off:Nat}{T:TypeId}{fz:Nat×Nat}{cur:Array Value}{v:Value}(h:w.heap[g]? = some (.cells cur T fz))
  (b:Z3Z cur fz) (m:v.cells.size=size τ) (p:off+size τ<=cur.size) (e:∀c∈v.cells.toList,one c=true) :
  (Instr.storeAt t (.pointer (some ⟨g,off,none⟩)) v).run P w= .ok () (w.setRow g (Z0c cur.toList off v.cells.toList).toArray):=by
 obtain⟨n,z,i,j,_⟩:=(f _ _ _ ht).info;have:=Z3n P g off T fz v.cells.toList 0 cur w h b (by simp;omega) e
 rw[XK]at this;simp only[Instr.storeAt,Instr.sureAddr,Sem.run_bind,Sem.run_pure,Result.andThen_ok,storeVar,sizeOf,typeInfo,run_program,i,j,m];simp[this]
theorem Wrote.setRow (w:World)(g:Nat)(C:Array Value):Wrote w (w.setRow g C) g:=
 ⟨setRow_size _ _ _,λb e=>setRow_other _ _ _ _ e,rfl,rfl,rfl⟩
theorem Z6n (hT:Z0e P Γ.tys)(I:Inv W0 M σ a w G xs){t:TypeId}{y x:Operand}(ho:o.op= .store t y x){τ:Ty}{p:Place}(ht:tyOf Γ.tys t=some τ)(hp:σ.peek y= .ptr p)
  {v:TVal} {W σ2:State} (an:σ.take x τ=some (v,W)) (H:(W.loosen true p.root).setAt p v=some σ2):Z1n P W0 M o a w G xs σ2 .dead false:=by
 have D:=Z0v I y;rw[hp]at D;obtain⟨_,ab,C,D⟩:=D (by simp)
 obtain⟨fp,A,I1,hs,hτ,hR,hsh⟩:=Z0Y I an;rw[hsh.cells]at hR;unfold State.setAt at H;obtain⟨c,hc,h2⟩:=Yj.1 H;obtain⟨n,U,rfl⟩:=Qm.1 h2;obtain⟨bx,e,path⟩:=p;simp only at ab C hc U;subst ab;have B:W.boxAt e=some c:=hc;have ak:=D.sim (σ':=W) (G':=A) (λq=>Z2z an q) hs.ad
 have ah:=Z55 I1 B rfl C rfl ak;obtain⟨_,_,off,ap,ai⟩:=ah;obtain⟨X,I2,m,ar,⟨Y,T,ac,aa⟩,al⟩:=I1.takeBox B;obtain⟨u,hu,ao⟩:=Z3L U;obtain⟨cs,af⟩:=ai w Y.toList;simp only at af;obtain⟨f1,fi,f2,e1,e2,e3,e4,e5⟩:=Rp.flatLens C aa af hu;have aj:off=Z0g c.τ path:=by
  simp only[XU,Q9,Qs]at e3;rw[e3.2];omega
 have E:=e5 v _ fp n.1 n.2 U ao.symm hR;rw[<-aj]at E;have hsz:=Z1u C hu;have ae:Y.size=size c.τ:=by have:=aa.len.1;simpa using this
 obtain⟨l,hta,_⟩:=Z0Q ht;have aq:(a.eval x).cells.size=size τ:=by have:=hR.len.1;rw[hτ]at this;simpa using this
 have huτ:size u.τ=size τ:=by rw[ao,hτ]
 have am:(execOp a.eval o).run P w= .ok .skip (w.setRow (A.ad e) (Z0c Y.toList off (a.eval x).cells.toList).toArray):=by
  rw[Z03 ho];have V:=Z48 (off:=off) hT hta ac (λj hj hh=>by simp at hh) aq (by rw[ae];omega) hR.ones
  simp only[execOp,ap,Sem.run_bind,V,Result.andThen_ok,Sem.run_pure]
 have f:X.who (A.ad e)=some (.a e):=(m.bx _ _).2 ar;have Q:((W.loosen true e).putBox e none).boxAt e=none:=by
  rw[Z0C];split
  ·rfl
  ·rename_i hh;exact absurd ⟨rfl,Z1B B⟩ hh
 obtain⟨I3,_,hl3⟩:=I2.patch f (.inr ⟨e,rfl,Q⟩) (Wrote.setRow w (A.ad e) (Z0c Y.toList off (a.eval x).cells.toList).toArray) (X.F (A.ad e)) (.inr (.inl ⟨e,rfl⟩));have hgf:A.ad e ∉ f1++fp++f2:=by
  intro Z;have:X.who (A.ad e)=some .x:=by
   refine I2.whoX _ ?_;rw[e1];simp only[Qr]at Z ⊢;rcases Z with (Z | Z) | Z<;>simp[Z]
  rw[f]at this;cases this
 have K:Rp w X.F X.St X.Al c.τ n.2 (Z0c Y.toList off (a.eval x).cells.toList) n.1 (f1++fp++f2):=by
  rw[m.F,m.St,m.Al];exact E
 have L:=hl3 _ _ _ _ _ K hgf (.inr (.inl ⟨e,rfl⟩));have hI3:=I3.sub (ys:=(f1++fp++f2)++xs) (by
   intro b J;rw[e1];simp only[Qr]at J ⊢;rcases J with ((J | J) | J) | J<;>simp[J]) (by
   have hp:(((f1++fp++f2)++xs)++fi).Perm (A.fb e++(fp++xs)):=by
    rw[e1];refine QZ.2 λz=> ?_
    simp only[XA];omega
   exact(Qj.1 (hp.nodup_iff.2 I2.nodX)).1)
 obtain⟨G4,I4,_⟩:=hI3.addBox (i:=e) (g:=A.ad e) (c:=(Z0c Y.toList off (a.eval x).cells.toList).toArray) (T:=T) (v:=⟨c.τ,c.ag,n.1,n.2⟩) (by
   simp only[State.putBox,Z0E];exact Z1B B) (setRow_heap w _ _ _ _ _ ac) f L (λj hj=>by
   rw[Z1E];exact al j (by simpa[State.putBox,State.loosen,Z0b]using hj)) (.inr (by rw[<-m.ad]))
 have V:((W.loosen true e).putBox e none).putBox e (some ⟨c.τ,c.ag,n.1,n.2⟩)=(W.loosen true e).setContent ⟨true,e,path⟩ ⟨c.τ,c.ag,n.1,n.2⟩:=by
  simp only[State.putBox,State.setContent,Z1x]
 rw[V]at I4;exact⟨undef,_,G4,[],_,am,.inr ⟨rfl,rfl⟩,by simpa using I4,rfl,λh=>by cases h⟩
end
end Go.PI
