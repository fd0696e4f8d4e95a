/-
  Program's code interpreted over typed values; printed texts; plain laws. No conditions.
-/
import Derived.Calls
import Derived.Orders
import GoSem.Dispatch
import Derived.Laws.Append
import Derived.Laws.CopyRow
import Derived.Laws.BytesString
import Derived.Laws.Concat
import Derived.Tactics
import Derived.WideLaws
import Derived.Laws.Strings
import Derived.Laws.Cover1
import Derived.Laws.StructEq
import Derived.Laws.IdiomStrings
import Derived.Laws.MakeOwn
set_option linter.unusedVariables false
set_option linter.unusedSimpArgs false
namespace Go.PI
noncomputable section
inductive Ty where
 | int (k:IntKind) | bool | str | unit
 | slice (e:Ty) | pair (a b:Ty)
 deriving DecidableEq
@[reducible] def El:Ty->Type
 | .int _=>Int
 | .bool=>Bool
 | .str=>ByteArray
 | .unit=>Unit
 | .slice e=>List (El e)
 | .pair a b=>El a×El b
def zero:(τ:Ty)->El τ
 | .int _=>(0:Int)
 | .bool=>false
 | .str=>(⟨#[]⟩:ByteArray)
 | .unit=>()
 | .slice _=>[]
 | .pair a b=>(zero a,zero b)
def size:Ty->Nat
 | .unit=>0
 | .pair a b=>size a+size b
 | _=>1
def Z05:Ty->Nat
 | .slice _=>1
 | .pair a b=>Z05 a+Z05 b
 | _=>0
inductive Tag where
 | O | PS | PN | S | N
 deriving DecidableEq
def Tag.own:Tag->Bool
 | .O | .PS | .PN=>true
 | _=>false
def Tag.alias:Tag->Tag
 | .S=> .S
 | _=> .N
def Tag.inner:Tag->Tag
 | .O=> .O
 | .PS | .S=> .S
 | .PN | .N=> .N
def Tag.meet:Tag->Tag->Tag
 | .O,t=>t
 | t,.O=>t
 | .S,.S=> .S
 | _,_=> .N
def Tag.over:Tag->Tag
 | .O=> .O
 | .S | .PS=> .PS
 | .N | .PN=> .PN
def Tag.isO:Tag->Bool
 | .O=>true
 | _=>false
def Tag.isN:Tag->Bool
 | .N | .PN=>true
 | _=>false
def Tag.isS:Tag->Bool
 | .S=>true
 | _=>false
def Tag.freeze:Tag->Tag
 | .O | .PS | .S=> .S
 | _=> .N
structure TVal where
 τ:Ty
 ag:Bool
 x:El τ
 tg:List Tag
inductive Step where
 | fst | snd | idx (i:Nat)
 deriving DecidableEq
structure Place where
 box:Bool
 root:Nat
 path:List Step
 deriving DecidableEq
inductive TV where
 | dead
 | un
 | nil
 | val (v:TVal)
 | tup (v:TVal) (ags:List Bool)
 | ref (p:Place) (ag:Bool)
 | ptr (p:Place)
 | eptr (v:TVal) (t:Tag)
 | eref (p:Place)
 | tref (t:Nat) (ags:List Bool)
 | sptr (r:Nat) (τ:Ty) (p:List Step)
 | clos (fn:FuncId) (caps:List Place)
 | sclos (fn:FuncId) (τs:List Ty) (v:TVal)
structure State where
 slots:List TV
 boxes:List (Option TVal)
def Z0v {α:Type} (d:α) (l:List α):Nat->α:=
 List.rec (motive:=λ_=>Nat->α) (λ_=>d) (λa _ b n=>Nat.rec (motive:=λ_=>α) a (λm _=>b m) n) l
def Z0I {α:Type} (l:List α):Nat->α->List α:=
 List.rec (motive:=λ_=>Nat->α->List α) (λ_ _=>[]) (λa l b n v=>Nat.rec (motive:=λ_=>List α) (v::l) (λm _=>a::b m v) n) l
def Z50 {α β:Type} (f:α->β) (l:List α):List β:=List.rec (motive:=λ_=>List β) [] (λa _ b=>f a::b) l
theorem Z0y {α:Type} (d:α) (i:Nat):Z0v d [] i=d:=rfl
theorem Z0t {α:Type} (d a:α) (l:List α):Z0v d (a::l) 0=a:=rfl
theorem Z0q {α:Type} (d a:α) (l:List α) (n:Nat):Z0v d (a::l) (n+1)=Z0v d l n:=rfl
theorem Z2u {α:Type} (i:Nat) (v:α):Z0I [] i v=[]:=rfl
theorem Z27 {α:Type} (a v:α) (l:List α):Z0I (a::l) 0 v=v::l:=rfl
theorem Z1f {α:Type} (a v:α) (l:List α) (n:Nat):Z0I (a::l) (n+1) v=a::Z0I l n v:=rfl
theorem Z0a {α β:Type} (f:α->β):(l:List α)->Z50 f l=l.map f
 | []=>rfl
 | a::l=>congrArg (f a:: ·) (Z0a f l)
def State.slot (σ:State) (i:Nat):TV:=Z0v .dead σ.slots i
def State.boxAt (σ:State) (i:Nat):Option TVal:=Z0v none σ.boxes i
def State.putBox (σ:State) (i:Nat) (v:Option TVal):State:={ σ with boxes:=Z0I σ.boxes i v }
def Z2F (τ:Ty) (v:TVal):Option (El τ):=
 if h:v.τ=τ then some (h ▸ v.x) else none
def Z0d:Ty->List Step->Option Ty
 | τ,[]=>some τ
 | .pair a _,.fst::p=>Z0d a p
 | .pair _ b,.snd::p=>Z0d b p
 | _,_=>none
def Z0b:(τ:Ty)->El τ->List Tag->List Step->Option TVal
 | τ,x,tg,[]=>some ⟨τ,false,x,tg⟩
 | .pair a b,x,tg,.fst::p=>Z0b a x.1 (tg.take (Z05 a)) p
 | .pair a b,x,tg,.snd::p=>Z0b b x.2 (tg.drop (Z05 a)) p
 | .slice e,x,tg,.idx i::p=>Z0b e (x.getD i (zero e)) (List.replicate (Z05 e) (tg.headD .N).inner) p
 | _,_,_,_=>none
def Z0K:(τ:Ty)->El τ->List Tag->List Step->TVal->Option (El τ×List Tag)
 | τ,_,_,[],v=>if h:v.τ=τ then some (h ▸ v.x,v.tg) else none
 | .pair a b,x,tg,.fst::p,v=>(Z0K a x.1 (tg.take (Z05 a)) p v).map λr=>((r.1,x.2),r.2++tg.drop (Z05 a))
 | .pair a b,x,tg,.snd::p,v=>(Z0K b x.2 (tg.drop (Z05 a)) p v).map λr=>((x.1,r.1),tg.take (Z05 a)++r.2)
 | .slice e,x,tg,.idx i::p,v=>(Z0K e (x.getD i (zero e)) (List.replicate (Z05 e) (tg.headD .N).inner) p v).map λr=>(x.set i r.1,tg)
 | _,_,_,_,_=>none
def Z07:List Step->Bool
 | []=>true
 | .idx _::_=>false
 | _::p=>Z07 p
def State.content (σ:State) (p:Place):Option TVal:=
 match p.box with
 | true=>σ.boxAt p.root
 | false=>match σ.slot p.root with | .val v=>some v | .tup v _=>some v | _=>none
def State.getAt (σ:State) (p:Place):Option TVal:=(σ.content p).bind λv=>Z0b v.τ v.x v.tg p.path
def State.setContent (σ:State) (p:Place) (v:TVal):State:=
 match p.box with
 | true=>{ σ with boxes:=Z0I σ.boxes p.root (some v) }
 | false=>match σ.slot p.root with
  | .val _=>{ σ with slots:=Z0I σ.slots p.root (.val v) }
  | .tup _ ags=>{ σ with slots:=Z0I σ.slots p.root (.tup v ags) }
  | _=>σ
def State.setAt (σ:State) (p:Place) (u:TVal):Option State:=
 (σ.content p).bind λv=>(Z0K v.τ v.x v.tg p.path u).map λr=>σ.setContent p ⟨v.τ,v.ag,r.1,r.2⟩
def TVal.alias (v:TVal):TVal:={ v with tg:=v.tg.map Tag.alias }
def TVal.anyOwn (v:TVal):Bool:=v.tg.any Tag.own
def TVal.freeze (v:TVal):TVal:={ v with tg:=v.tg.map Tag.freeze }
def TVal.allS (v:TVal):Bool:=v.tg.all Tag.isS
def TVal.allO (v:TVal):Bool:=v.tg.all Tag.isO
def TVal.noN (v:TVal):Bool:=v.tg.all λt=> !t.isN
def TV.loosen (box:Bool) (b:Nat):TV->TV
 | .ref p ag=>if p.box==box&&p.root==b then .dead else .ref p ag
 | .eref p=>if p.box==box&&p.root==b then .dead else .eref p
 | .tref t ags=>if !box&&t==b then .dead else .tref t ags
 | tv=>tv
def State.loosen (σ:State) (box:Bool) (b:Nat):State:=
 { σ with slots:=Z50 (TV.loosen box b) σ.slots }
def TV.unpoint (b:Nat):TV->TV
 | .ptr p=>if p.root==b then .dead else .ptr p
 | .clos f d=>if d.any (λp=>p.root==b) then .dead else .clos f d
 | tv=>tv
def State.unpoint (σ:State) (b:Nat):State:={ σ with slots:=Z50 (TV.unpoint b) σ.slots }
def TV.isVal:TV->Bool
 | .val _=>true
 | _=>false
def TV.holds:TV->Bool
 | .val v=>v.anyOwn
 | .tup v _=>v.anyOwn
 | _=>false
def State.put (σ:State) (i:Nat) (v:TV):State:=
 { σ with slots:=Z0I (σ.loosen false i).slots i v }
def TV.unmir (i:Nat):TV->TV
 | .sptr r τ p=>if r==i then .dead else .sptr r τ p
 | tv=>tv
def State.unmir (σ:State) (i:Nat):State:={ σ with slots:=Z50 (TV.unmir i) σ.slots }
def State.puto (σ:State) (d:Option Nat) (v:TV):State:=match d with | some i=>(σ.unmir i).put i (TV.unmir i v) | none=>σ
def Z0z (τ:Ty) (x:El τ):TVal:=⟨τ,false,x,[]⟩
def Z34 (σ:State) (p:Place) (ag:Bool):Option TV:=
 match σ.getAt p with
 | some u=>some (if u.allS then .val { u with ag:=ag } else .ref p ag)
 | none=>none
def State.peek (σ:State):Operand->TV
 | .tmp t=>match σ.slot t with
  | .val v=>if v.anyOwn then .ref ⟨false,t,[]⟩ v.ag else .val v
  | tv=>tv
 | .const (.int k n)=> .val (Z0z (.int k) n)
 | .const (.bool b)=> .val (Z0z .bool b)
 | .const (.string s)=> .val (Z0z .str s)
 | .const (.slice none 0 0)=> .nil
 | .func f=> .clos f []
 | _=> .dead
def State.look (σ:State) (o:Operand):Option TVal:=
 match σ.peek o with
 | .val v=>some v
 | .ref p ag=>(σ.getAt p).map λu=>{ u.alias with ag:=ag }
 | _=>none
def State.lookAs (σ:State) (o:Operand) (τ:Ty):Option TVal:=
 match σ.peek o with
 | .nil=>match τ with | .slice e=>some ⟨.slice e,false,[],[.S]⟩ | _=>none
 | _=>σ.look o
def State.slotOf (σ:State):Operand->Option (Nat×TVal)
 | .tmp t=>match σ.slot t with
  | .val u=>if u.anyOwn then some (t,u) else none
  | _=>none
 | _=>none
def State.take (σ:State) (o:Operand) (τ:Ty):Option (TVal×State):=
 match σ.peek o with
 | .nil=>match τ with | .slice e=>some (⟨.slice e,false,[],[.O]⟩,σ) | _=>none
 | .val v=>if v.τ=τ then some (v,σ) else none
 | .ref p ag=>
  match σ.getAt p with
  | some u=>if u.τ=τ then
    (if u.anyOwn&&Z07 p.path then (σ.setAt p u.alias).map λσ'=>({ u with ag:=ag },σ')
     else some ({ u.alias with ag:=ag },σ))
   else none
  | none=>none
 | _=>none
def TV.kill:TV->TV
 | .val v=>if v.noN then .val v else .dead
 | .tup v a=>if v.noN then .tup v a else .dead
 | .eptr v t=>if t.isN then .dead else .eptr v t
 | tv=>tv
def Z2R:Option TVal->Option TVal
 | some v=>if v.noN then some v else none
 | none=>none
def State.kill (σ:State):State:={ slots:=Z50 TV.kill σ.slots,boxes:=Z50 Z2R σ.boxes }
def Z51:(τ:Ty)->El τ->Bool
 | .slice e,x=>List.isEmpty (α:=El e) x
 | .pair a b,x=>Z51 a x.1&&Z51 b x.2
 | _,_=>true
def Z4f:Option TVal->Option TVal
 | some v=>bif v.noN then some v else bif Z51 v.τ v.x then some { v with tg:=v.tg.map λ_=> .S } else some v
 | none=>none
def State.renil (σ:State):State:={ σ with boxes:=Z50 Z4f σ.boxes }
def LIM:Nat:=2147483648
inductive Mode where
 | borrow (τ:Ty) (ag:Bool) | consume (τ:Ty) (ag:Bool) | eat (τ:Ty) (ag:Bool) | inout (τ:Ty) (ag:Bool) | ptr (τ:Ty) | clos (fn:FuncId) (caps:List Ty)
 | look (τ:Ty) (ag:Bool) | rptr (τ:Ty) | rclos (fn:FuncId) (caps:List Ty)
structure Sig (R:Type) where
 modes:List Mode
 ags:List Bool
 run:List TVal->List TVal->(List TVal->List TVal->List TVal->Option R)->Option R
structure Env (R:Type) where
 tys:List (TypeId×Ty×List TypeId)
 fns:List (FuncId×Sig R)
 np:Nat:=0
def Z0o {α:Type}:List (Nat×α)->Nat->Option α
 | [],_=>none
 | (m,a)::l,n=>if m==n then some a else Z0o l n
def Z0A (tys:List (TypeId×Ty×List TypeId)) (t:TypeId):Option Ty:=(Z0o tys t).map (·.1)
def Z0p (tys:List (TypeId×Ty×List TypeId)) (t:TypeId):Bool:=match Z0o tys t with | some (_,l)=> !l.isEmpty | none=>false
def Z09:(n i:Nat)->List Step
 | 0,_=>[]
 | 1,_=>[]
 | _+2,0=>[.fst]
 | n+2,i+1=> .snd::Z09 (n+1) i
def Z4b (tys:List (TypeId×Ty×List TypeId)) (t:TypeId) (i:Nat):Option (List Step):=
 match Z0o tys t with
 | some (_,l)=>if i<l.length then some (Z09 l.length i) else none
 | none=>none
def Z2w (tys:List (TypeId×Ty×List TypeId)) (t:TypeId) (i:Nat):Bool:=
 match Z0o tys t with
 | some (_,l)=>Z0p tys (l.getD i 0)
 | none=>false
def inb (i:Int) (n:Nat):Bool:=decide (0<=i/\i<(n:Int))
def Z87 (i j:Int) (n:Nat):Bool:=decide (0<=i/\i<=j/\j<=(n:Int))
def sub {α:Type} (l:List α) (i j:Int):List α:=(l.take j.toNat).drop i.toNat
def bt (s:ByteArray) (i:Int):Int:=((s.data.toList.getD i.toNat 0).toNat:Int)
def Z3y (l:List Int):ByteArray:=⟨(l.map λn=>UInt8.ofNat n.toNat).toArray⟩
def Z1k (s:ByteArray):List Int:=s.data.toList.map λb=>(b.toNat:Int)
def mxI (m n:Int):Int:=if n>m then n else m
def mnI (m n:Int):Int:=if n<m then n else m
def lim (n:Nat):Bool:=decide (n<=LIM)
def Z3X:(τ:Ty)->El τ->El τ->Option Bool
 | .int _,a,b=>some ((a:Int)==b)
 | .bool,a,b=>some ((a:Bool)==b)
 | .str,a,b=>some (ByteArray.toList a==ByteArray.toList b)
 | .unit,_,_=>none
 | .slice _,_,_=>none
 | .pair s t,a,b=>match Z3X s a.1 b.1,Z3X t a.2 b.2 with | some p,some q=>some (p&&q) | _,_=>none
def Z8X (d:BinOp) (k:IntKind) (a b:Int):Option (Bool×TVal):=
 match d with
 | .add=>some (true,Z0z (.int k) (k.wrap (a+b)))
 | .sub=>some (true,Z0z (.int k) (k.wrap (a-b)))
 | .mul=>some (true,Z0z (.int k) (k.wrap (a * b)))
 | .quo=>some (!decide (b=0),Z0z (.int k) (k.wrap (a.tdiv b)))
 | .rem=>some (!decide (b=0),Z0z (.int k) (a.tmod b))
 | .and=>some (true,Z0z (.int k) (k.wrap ((BitVec.ofInt k.bits a &&& BitVec.ofInt k.bits b).toNat)))
 | .or=>some (true,Z0z (.int k) (k.wrap ((BitVec.ofInt k.bits a ||| BitVec.ofInt k.bits b).toNat)))
 | .xor=>some (true,Z0z (.int k) (k.wrap ((BitVec.ofInt k.bits a ^^^ BitVec.ofInt k.bits b).toNat)))
 | .eql=>some (true,Z0z .bool (a==b))
 | .neq=>some (true,Z0z .bool (a != b))
 | .lss=>some (true,Z0z .bool (decide (a<b)))
 | .leq=>some (true,Z0z .bool (decide (a<=b)))
 | .gtr=>some (true,Z0z .bool (decide (a>b)))
 | .geq=>some (true,Z0z .bool (decide (a>=b)))
 | _=>none
def Z8Y (d:BinOp) (a b:ByteArray):Option (Bool×TVal):=
 match d with
 | .add=>some (lim (a.size+b.size),Z0z .str (a++b))
 | .eql=>some (true,Z0z .bool (a.toList==b.toList))
 | .neq=>some (true,Z0z .bool (!(a.toList==b.toList)))
 | .lss=>some (true,Z0z .bool (Op.bytesLess a.toList b.toList))
 | .leq=>some (true,Z0z .bool (Op.bytesLess a.toList b.toList||a.toList==b.toList))
 | .gtr=>some (true,Z0z .bool (!(Op.bytesLess a.toList b.toList||a.toList==b.toList)))
 | .geq=>some (true,Z0z .bool (!(Op.bytesLess a.toList b.toList)))
 | _=>none
def Z8Z (tys:List (TypeId×Ty×List TypeId)) (t:TypeId) (d:BinOp) (u v:TVal):Option (Bool×TVal):=
 match d,u,v with
 | .shl,⟨.int a,false,m,_⟩,⟨.int _,false,n,_⟩=>some (!decide ((n:Int)<0),Z0z (.int a) (a.wrap ((m:Int) * 2 ^ min (Int.toNat n) a.bits)))
 | .shr,⟨.int a,false,m,_⟩,⟨.int _,false,n,_⟩=>some (!decide ((n:Int)<0),Z0z (.int a) (Int.fdiv m (2 ^ min (Int.toNat n) a.bits)))
 | d,⟨.int a,false,m,_⟩,⟨.int b,false,n,_⟩=>if a=b then Z8X d a m n else none
 | d,⟨.str,false,a,_⟩,⟨.str,false,b,_⟩=>Z8Y d a b
 | .eql,⟨.bool,false,a,_⟩,⟨.bool,false,b,_⟩=>if Z0A tys t=some .bool/\Z0p tys t=false then some (true,Z0z .bool ((a:Bool)==b)) else none
 | .neq,⟨.bool,false,a,_⟩,⟨.bool,false,b,_⟩=>if Z0A tys t=some .bool/\Z0p tys t=false then some (true,Z0z .bool (!((a:Bool)==b))) else none
 | _,_,_=>none
def Z3Y (tys:List (TypeId×Ty×List TypeId)):Nat->TypeId->Bool
 | 0,_=>false
 | n+1,t=>match Z0o tys t with
  | some (.int _,[])=>true
  | some (.bool,[])=>true
  | some (.str,[])=>true
  | some (_,a::l)=>Z3Y tys n a&&l.all (Z3Y tys n)
  | _=>false
def eqV (tys:List (TypeId×Ty×List TypeId)) (t:TypeId) (d:BinOp) (u v:TVal):Option (Bool×TVal):=
 if Z3Y tys 20 t&&Z0p tys t&&decide (Z0A tys t=some u.τ) then
  (if h:v.τ=u.τ then
   (match Z3X u.τ u.x (h ▸ v.x) with
    | some b=>(match d with
     | .eql=>some (true,Z0z .bool b)
     | .neq=>some (true,Z0z .bool (!b))
     | _=>none)
    | none=>none)
   else none)
 else none
def Z5k:TVal->Option Int
 | ⟨.int .i64,false,n,_⟩=>some n
 | ⟨.int .u8,false,n,_⟩=>some n
 | _=>none
def Z5l (σ:State) (o:Option Operand) (d:Int):Option Int:=
 match o with
 | none=>some d
 | some o=>match σ.look o with | some v=>Z5k v | none=>none
def Z0l (tys:List (TypeId×Ty×List TypeId)) (σ:State):Op->Option (Bool×TV)
 | .move x=>match σ.peek x with | .dead=>none | .un=>none | .tup _ ags=>(match x with | .tmp t=>some (true,.tref t ags) | _=>none) | tv=>some (true,tv)
 | .unOp .neg _ x=>match σ.look x with | some ⟨.int a,false,n,_⟩=>some (true,.val (Z0z (.int a) (a.wrap (0-n)))) | _=>none
 | .unOp .not _ x=>match σ.look x with | some ⟨.bool,false,b,_⟩=>some (true,.val (Z0z .bool (!b))) | _=>none
 | .binOp B t x y _=>match σ.look x,σ.look y with | some u,some v=>(if u.ag&&v.ag then eqV tys t B u v else Z8Z tys t B u v).map λr=>(r.1,.val r.2) | _,_=>none
 | .convert s t x=>
  if Z0p tys s||Z0p tys t then none else
  match Z0A tys s,Z0A tys t,σ.look x with
  | some (.int _),some (.int j),some ⟨.int _,false,n,_⟩=>some (true,.val (Z0z (.int j) (j.wrap n)))
  | some .str,some .str,some ⟨.str,false,b,_⟩=>some (true,.val (Z0z .str b))
  | some (.slice (.int .u8)),some .str,some ⟨.slice (.int .u8),false,l,_⟩=>some (true,.val (Z0z .str (Z3y l)))
  | _,_,_=>none
 | .nilCheck x=>match σ.peek x with
  | .ptr p=>if (σ.getAt p).isSome then some (true,.ptr p) else none
  | .eptr v t=>some (true,.eptr v t)
  | .eref p=>if (σ.getAt p).isSome then some (true,.eref p) else none
  | .clos f C=>some (true,.clos f C)
  | .sptr r τ p=>some (true,.sptr r τ p)
  | .sclos f D v=>some (true,.sclos f D v)
  | _=>none
 | .makeFunc (.func f) first d=>
  if first.isEmpty then
   (match (d.toList.map σ.peek).foldr (λtv w=>match tv,w with | .ptr p,some l=>some (p::l) | _,_=>none) (some []) with
    | some l=>some (true,.clos f l)
    | none=>none)
  else none
 | .load t x=>
  match Z0A tys t,σ.peek x with
  | some τ,.ptr p=>match σ.getAt p with
   | some v=>if v.τ=τ then (Z34 σ p (Z0p tys t)).map λtv=>(true,tv) else none
   | none=>none
  | some τ,.eref p=>match σ.getAt p with
   | some v=>if v.τ=τ then (Z34 σ p (Z0p tys t)).map λtv=>(true,tv) else none
   | none=>none
  | some τ,.eptr v _=>if v.τ=τ then some (true,.val { v.alias with ag:=Z0p tys t }) else none
  | some τ,.sptr r k p=>match σ.slot r with
   | .val c=>if c.τ=k then (match σ.getAt ⟨false,r,p⟩ with
    | some v=>if v.τ=τ then (Z34 σ ⟨false,r,p⟩ (Z0p tys t)).map λtv=>(true,tv) else none
    | none=>none) else none
   | _=>none
  | _,_=>none
 | .slice t x A z none=>
  match Z0A tys t,σ.look x with
  | some .str,some ⟨.str,false,s,_⟩=>
   if Z0p tys t then none else (match Z5l σ A 0,Z5l σ z (ByteArray.size s) with
    | some i,some j=>some (Z87 i j (ByteArray.size s),.val (Z0z .str (ByteArray.extract s i.toNat j.toNat)))
    | _,_=>none)
  | some (.slice h),some ⟨.slice e,false,l,tg⟩=>
   if h=e/\Z0p tys t=false then
    (match Z5l σ A 0,Z5l σ z (List.length (α:=El e) l) with
     | some i,some j=>some (Z87 i j (List.length (α:=El e) l),.val ⟨.slice e,false,sub (α:=El e) l i j,tg⟩)
     | _,_=>none)
   else none
  | _,_=>none
 | .fieldAddr t x i=>
  match Z4b tys t i,σ.peek x with
  | some q,.ptr p=>(match σ.getAt p with
   | some u=>if Z0A tys t=some u.τ then some (true,.ptr { p with path:=p.path++q }) else none
   | none=>none)
  | some q,.eref p=>(match σ.getAt p with
   | some u=>if Z0A tys t=some u.τ then some (true,.eref { p with path:=p.path++q }) else none
   | none=>none)
  | some q,.eptr v g=>if Z0A tys t=some v.τ then (Z0b v.τ v.x v.tg q).map λu=>(true,.eptr u g) else none
  | some q,.sptr r k p=>if Z0A tys t=Z0d k p then some (true,.sptr r k (p++q)) else none
  | _,_=>none
 | .field t x i=>
  match Z4b tys t i,σ.peek x with
  | some q,.ref p true=>(match σ.getAt p with
   | some u=>if Z0A tys t=some u.τ then (Z34 σ { p with path:=p.path++q } (Z2w tys t i)).map λtv=>(true,tv) else none
   | none=>none)
  | some q,.val ⟨τ,true,y,tg⟩=>if Z0A tys t=some τ then (Z0b τ y tg q).map λu=>(true,.val { u with ag:=Z2w tys t i }) else none
  | _,_=>none
 | .indexAddr t x i=>
  match Z0A tys t,σ.peek x,σ.look i with
  | some (.slice h),.ref p false,some n=>match σ.getAt p,Z5k n with
   | some ⟨.slice e,_,l,_⟩,some n=>if h=e/\Z0p tys t=false then some (inb n (List.length (α:=El e) l),.eref { p with path:=p.path++[.idx n.toNat] }) else none
   | _,_=>none
  | some (.slice h),.val ⟨.slice e,false,l,tg⟩,some n=>match Z5k n with
   | some n=>if h=e/\Z0p tys t=false then some (inb n (List.length (α:=El e) l),.eptr ⟨e,false,List.getD (α:=El e) l n.toNat (zero e),List.replicate (Z05 e) (tg.headD .N).inner⟩ (tg.headD .N)) else none
   | none=>none
  | _,_,_=>none
 | .index t x i=>
  match Z0A tys t,σ.look x,σ.look i with
  | some .str,some ⟨.str,false,s,_⟩,some n=>match Z5k n with
   | some n=>if Z0p tys t then none else some (inb n (ByteArray.size s),.val (Z0z (.int .u8) (bt s n)))
   | none=>none
  | _,_,_=>none
 | .extract (.tmp t) i=>
  match σ.slot t with
  | .tup v ags=>if i<ags.length then (Z34 σ ⟨false,t,Z09 ags.length i⟩ (Z0v false ags i)).map λtv=>(true,tv) else none
  | .tref t' ags=>if i<ags.length then (Z34 σ ⟨false,t',Z09 ags.length i⟩ (Z0v false ags i)).map λtv=>(true,tv) else none
  | _=>none
 | .call c=>
  match c.callee,c.args.toList,c.argTypes.toList with
  | .builtin .len,[x],[t]=>
   (match Z0A tys t,σ.look x with
    | some .str,some ⟨.str,false,s,_⟩=>if Z0p tys t then none else some (true,.val (Z0z (.int .i64) (ByteArray.size s:Int)))
    | some (.slice _),some ⟨.slice e,false,l,_⟩=>if Z0p tys t then none else some (true,.val (Z0z (.int .i64) ((List.length (α:=El e) l:Nat):Int)))
    | _,_=>none)
  | .builtin .max,[x,y],_=>
   (match σ.look x,σ.look y with
    | some ⟨.int a,false,m,_⟩,some ⟨.int b,false,n,_⟩=>if a=b then some (true,.val (Z0z (.int a) (mxI m n))) else none
    | _,_=>none)
  | .builtin .min,[x,y],_=>
   (match σ.look x,σ.look y with
    | some ⟨.int a,false,m,_⟩,some ⟨.int b,false,n,_⟩=>if a=b then some (true,.val (Z0z (.int a) (mnI m n))) else none
    | _,_=>none)
  | _,_,_=>none
 | _=>none
def Z69 (tys:List (TypeId×Ty×List TypeId)):Op->Bool
 | .move _ | .unOp .. | .binOp .. | .nilCheck _ | .makeFunc .. | .load .. | .slice .. | .fieldAddr .. | .field .. | .indexAddr .. | .index .. | .extract .. => true
 | .convert _ t _=>match Z0A tys t with | some (.slice _)=>false | _=>true
 | .call c=>match c.callee with | .builtin .len | .builtin .max | .builtin .min=>true | _=>false
 | _=>false
section
variable {R:Type}
def Z6R (n:Nat):List (Nat×Operand)->TVal->State->(TVal->State->Option R)->Option R
 | [],v,σ,k=>k v σ
 | (i,o)::rest,v,σ,k=>
  match Z0b v.τ v.x v.tg (Z09 n i) with
  | some u=>match σ.take o u.τ with
   | some (w,σ')=>match Z0K v.τ v.x v.tg (Z09 n i) w with
    | some r=>Z6R n rest ⟨v.τ,v.ag,r.1,r.2⟩ σ' k
    | none=>none
   | none=>none
  | none=>none
def Z4w (v:TVal):Tag:=v.tg.foldr Tag.meet .O
def Z7n (e:Ty):List (Nat×Operand)->Nat->List (El e)->Tag->State->(List (El e)->Tag->State->Option R)->Option R
 | [],_,b,t,σ,k=>k b.reverse t σ
 | (j,o)::rest,i,b,t,σ,k=>
  if i==j then
   match σ.take o e with
   | some (v,σ')=>match Z2F e v with
    | some x=>Z7n e rest (i+1) (x::b) (t.meet (Z4w v)) σ' k
    | none=>none
   | none=>none
  else none
def Z7R (tys:List (TypeId×Ty×List TypeId)) (f b:TypeId) (s x:Operand) (σ:State) (k:TV->State->Option R):Option R:=
 match Z0A tys f with
 | some (.slice e)=>
  match σ.take s (.slice e) with
  | some (v,d)=>
   match Z2F (.slice e) v,v.tg with
   | some l,[t]=>
    if t.own&& !v.ag&& !Z0p tys f then
     match Z0A tys b with
     | some (.slice g)=>
      match d.take x (.slice e) with
      | some (u,σ2)=>match Z2F (.slice e) u,u.tg with
       | some m,[t']=>if u.ag||Z0p tys b then none else
         bif lim (List.length (α:=El e) l+List.length (α:=El e) m) then
         k (.val ⟨.slice e,false,(l:List (El e))++m,[(if Z05 e==0 then Tag.O else t.inner.meet t'.inner).over]⟩) σ2 else none
       | _,_=>none
      | none=>none
     | some .str=>
      match d.look x with
      | some ⟨.str,false,s,_⟩=>if Z0p tys b then none else (match Z2F (.slice e) ⟨.slice (.int .u8),false,Z1k s,[]⟩ with
       | some m=>bif lim (List.length (α:=El e) l+ByteArray.size s) then k (.val ⟨.slice e,false,(l:List (El e))++m,[.O]⟩) d else none
       | none=>none)
      | _=>none
     | _=>none
    else none
   | _,_=>none
  | none=>none
 | _=>none
structure Args where
 vals:List TVal
 lent:List Nat
 writes:Bool
def Place.whole (p:Place):Bool:=p.box&&p.path.isEmpty
def Z0n:List Mode->List Operand->State->Args->(Args->State->Option R)->Option R
 | [],[],σ,a,k=>k a σ
 | .borrow τ ag::ms,o::b,σ,a,k=>
  match σ.slotOf o with
  | some (t,u)=>
   if u.τ=τ/\u.ag=ag then Z0n ms b { σ with slots:=Z0I σ.slots t (.val u.freeze) } { a with vals:=a.vals++[u.freeze] } k
   else none
  | none=>
   match σ.lookAs o τ with
   | some v=>if v.τ=τ/\v.ag=ag then Z0n ms b σ { a with vals:=a.vals++[v] } k else none
   | none=>none
 | .consume τ ag::ms,o::b,σ,a,k=>
  match σ.take o τ with
  | some (v,σ')=>if v.tg.all Tag.own&&v.noN&&v.ag==ag then Z0n ms b σ' { a with vals:=a.vals++[v],writes:=true } k else none
  | none=>none
 | .eat τ ag::ms,o::b,σ,a,k=>
  match σ.take o τ with
  | some (v,σ')=>if v.allO&&v.ag==ag then Z0n ms b σ' { a with vals:=a.vals++[v],writes:=true } k else none
  | none=>none
 | .ptr τ::ms,o::b,σ,a,k=>
  match σ.peek o with
  | .ptr p=>if p.whole then Z0n ms b σ { a with lent:=a.lent++[p.root],writes:=true } k else none
  | _=>none
 | .clos f h::ms,o::b,σ,a,k=>
  match σ.peek o with
  | .clos g d=>if g==f&&d.length==h.length&&d.all Place.whole then Z0n ms b σ { a with lent:=a.lent++d.map (·.root),writes:=a.writes|| !d.isEmpty } k else none
  | _=>none
 | _,_,_,_,_=>none
def State.boxesAt (σ:State):List Nat->Option (List TVal)
 | []=>some []
 | r::rs=>match σ.boxAt r,σ.boxesAt rs with | some v,some l=>some (v::l) | _,_=>none
def State.putBoxes (σ:State):List Nat->List TVal->State
 | r::rs,v::vs=>((σ.loosen true r).putBox r (some v)).putBoxes rs vs
 | _,_=>σ
def Z4g:List Nat->Bool
 | []=>true
 | a::l=> !l.contains a&&Z4g l
def Tag.back (b:Bool):Tag->Tag
 | .O=> .O
 | .PS=>if b then .PS else .PN
 | .PN=> .PN
 | .S=>if b then .S else .N
 | .N=> .N
def TVal.back (b:Bool) (v:TVal):TVal:={ v with tg:=v.tg.map (Tag.back b) }
def Z21 (fz:Bool) (l:List TVal):List TVal:=if !fz&&l.all TVal.noN then l else l.map λv=>{ v with tg:=v.tg.map λ_=>Tag.S }
def Z2o:List TVal->TVal
 | []=>Z0z .unit ()
 | [v]=>v
 | v::vs=>let u:=Z2o vs;⟨.pair v.τ u.τ,false,(v.x,u.x),v.tg++u.tg⟩
def Mode.isPtr:Mode->Bool
 | .ptr _=>true
 | _=>false
def Mode.isBorrow:Mode->Bool
 | .borrow .. => true
 | _=>false
def Mode.noLend:Mode->Bool
 | .borrow .. | .eat .. | .consume .. => true
 | _=>false
def Mode.isSee:Mode->Bool
 | .look .. => true
 | _=>false
def Mode.isLook:Mode->Bool
 | .look .. | .rptr _ | .rclos .. => true
 | _=>false
def Z5p (τ:Ty) (x:El τ):TVal:=⟨τ,false,x,List.replicate (Z05 τ) .S⟩
def Z4k:List Ty->(τ:Ty)->El τ->Option (List TVal)
 | [],_,_=>some []
 | [d],τ,x=>if τ=d then some [Z5p τ x] else none
 | d::f::g,.pair a b,x=>if a=d then (Z4k (f::g) b x.2).map λl=>Z5p a x.1::l else none
 | _,_,_=>none
def Z6S:List TVal->TVal
 | []=>Z0z .unit ()
 | [v]=>Z5p v.τ v.x
 | v::vs=>let u:=Z6S vs;Z5p (.pair v.τ u.τ) (v.x,u.x)
def State.ptrVal (σ:State) (o:Operand):Option TVal:=
 match σ.peek o with
 | .ptr p=>σ.getAt p
 | .eref p=>σ.getAt p
 | .eptr u _=>some u
 | _=>none
def State.placesVal (σ:State):List Place->Option (List TVal)
 | []=>some []
 | p::b=>match σ.getAt p,σ.placesVal b with | some v,some l=>some (v::l) | _,_=>none
def Z18:List Mode->List Operand->State->Option (List TVal)
 | [],[],_=>some []
 | .look τ ag::ms,o::b,σ=>
  match σ.lookAs o τ with
  | some v=>if v.τ=τ/\v.ag=ag then (Z18 ms b σ).map λl=>v::l else none
  | none=>none
 | .rptr τ::ms,o::b,σ=>
  match σ.ptrVal o with
  | some v=>if v.τ=τ then (Z18 ms b σ).map λl=>v::l else none
  | none=>none
 | .rclos f h::ms,o::b,σ=>
  match σ.peek o with
  | .clos g i=>(match σ.placesVal i with
   | some vs=>if g==f&&decide (vs.map (·.τ)=h) then (Z18 ms b σ).map λl=>Z6S vs::l else none
   | none=>none)
  | .sclos g d v=>if g==f&&decide (d=h) then (Z18 ms b σ).map λl=>v::l else none
  | _=>none
 | _,_,_=>none
def Z1s:List Mode->List TVal->Bool
 | [],[]=>true
 | .rptr τ::ms,v::vs=>decide (v.τ=τ)&&Z1s ms vs
 | _,_=>false
def Z6Q (b:Sig R) (i:List Operand) (d:List TVal) (σ:State) (k:TV->State->Option R):Option R:=
 match Z18 (b.modes.take i.length) i σ with
 | some vals=>if Z1s (b.modes.drop i.length) d then b.run (vals++d) [] λg h f=>
   if h.isEmpty&&f.isEmpty&&g.all (λv=>Z05 v.τ==0) then
    (match g with
     | []=>k .dead σ
     | [r]=>k (.val r) σ
     | rs=>k (.tup (Z2o rs) (rs.map (·.ag))) σ) else none
  else none
 | none=>none
def Z82 (d:Sig R) (h:List Operand) (i:List Place) (σ:State) (k:TV->State->Option R):Option R:=
 if (d.modes.drop h.length).length==i.length&&(d.modes.drop h.length).all Mode.isPtr&&i.all Place.whole then
 Z0n (d.modes.take h.length) h σ ⟨[],[],!i.isEmpty⟩ λa m=>
  let b:=a.lent++i.map (·.root)
  if Z4g b&&(!a.writes||a.vals.all λv=>v.noN) then
   match m.boxesAt b with
   | some ext=>if ext.all TVal.noN then d.run a.vals ext λl j g=>
     let f:=a.writes||a.vals.all TVal.noN
     let σ2:=if a.writes then m.renil.kill else m
     let n:=σ2.putBoxes b g
     if j.isEmpty then
      (match l.map (TVal.back f) with
       | []=>k .dead n
       | [r]=>k (.val r) n
       | rs=>k (.tup (Z2o rs) (rs.map (·.ag))) n) else none
    else none
   | none=>none
  else none
 else none
def Z8o (np:Nat) (σ:State) (x:Operand) (τ:Ty):Option Nat:=
 match x with
 | .tmp r=>match σ.slot r with
  | .val u=>if decide (r<np)&&decide (u.τ=τ)&&u.anyOwn then some r else none
  | _=>none
 | _=>none
def Z8G (np d:Nat):Bool:=decide (np<=d)
def State.empty (σ:State) (i:Nat):State:=σ.put i .dead
def State.hold (σ:State) (p:Place):State:=
 match p.box with
 | true=>(σ.loosen true p.root).putBox p.root none
 | false=>σ.empty p.root
def State.refill (σ:State) (p:Place) (v:TVal):State:=
 match p.box with
 | true=>(σ.loosen true p.root).putBox p.root (some v)
 | false=>σ.put p.root (.val v)
def Z1o:List Mode->List Operand->State->Option (List TVal)
 | [],[],_=>some []
 | .borrow τ ag::ms,o::b,σ=>
  match σ.look o with
  | some v=>if decide (v.τ=τ)&&v.ag==ag&&Z05 τ==0 then (Z1o ms b σ).map λl=>v::l else none
  | none=>none
 | _,_,_=>none
def Z5Q (g:Sig R) (τ:Ty) (ag:Bool) (ms:List Mode) (o:Operand) (j:List Operand) (σ:State) (k:TV->State->Option R):Option R:=
 match σ.peek o with
 | .ref p b=>
  match σ.content p,σ.getAt p,Z1o ms j σ with
  | some c,some u,some vs=>
   if decide (u.τ=τ)&&b==ag&&c.allO&&u.allO&&(p.box||(σ.slot p.root).isVal) then
    g.run ({ u with ag:=ag }::vs) [] λf d i=>
     match d with
     | [l]=>(match Z0K c.τ c.x c.tg p.path l with
      | some r=>let h:=(σ.hold p).kill.refill p ⟨c.τ,c.ag,r.1,r.2⟩
       (match f with
        | []=>k .dead h
        | [r]=>k (.val r) h
        | rs=>k (.tup (Z2o rs) (rs.map (·.ag))) h)
      | none=>none)
     | _=>none
   else none
  | _,_,_=>none
 | _=>none
def Z2J:List Step->Bool
 | []=>true
 | .idx _::p=>Z07 p
 | _::p=>Z2J p
def Z4d (p:Place):TV->Bool
 | .ref q _=> !Z07 p.path&&(q.box==p.box&&q.root==p.root&&Z07 q.path)
 | .eref q=> !Z07 p.path&&(q.box==p.box&&q.root==p.root&&Z2J q.path)
 | _=>false
def Z0X (p:Place):List TV->Nat->State->State
 | [],_,σ=>σ
 | t::l,i,σ=>Z0X p l (i+1) (match σ.slot i with | .dead=>if Z4d p t then σ.put i t else σ | _=>σ)
def Z5a (σ:State) (p:Place):Bool:=p.box||(σ.slot p.root).isVal
def Z9e (i j:Nat):Bool:=Nat.beq i j
def Z3v:List Step->List Step->Bool
 | [],[]=>true
 | .fst::p,.fst::q=>Z3v p q
 | .snd::p,.snd::q=>Z3v p q
 | .idx i::p,.idx j::q=>Z9e i j&&Z3v p q
 | _,_=>false
def Z7g:Op->Bool
 | .move _ | .nilCheck _ | .fieldAddr .. | .indexAddr .. => true
 | _=>false
def Z4V (i:Nat):Option Nat->Bool
 | some j=> !(j==i)
 | none=>true
def Z32 (d:Nat) (p:Place):List Oper->Bool
 | []=>false
 | [o]=>(match o.op with | .store _ _ (.tmp t)=>t==d | _=>false)&&o.guard.isNone&&o.dst.isNone
 | o::l=>Z7g o.op&&o.guard.isNone&&Z4V d o.dst&&(p.box||Z4V p.root o.dst)&&Z32 d p l
def Z6f (tys:List (TypeId×Ty×List TypeId)) (d f:TypeId) (p:Place) (x:Operand) (σ:State) (k:State->Option R):Option R:=
 match Z0A tys d,Z0A tys f with
 | some (.slice e),some (.slice _)=>
  match σ.take x (.slice e) with
  | some (u,σ2)=>
   match Z2F (.slice e) u,u.tg,σ2.content p,σ2.getAt p with
   | some m,[t'],some c,some v=>
    match Z2F (.slice e) v with
    | some l=>if c.allO&&Z5a σ2 p&&(t'.isO||(Z05 e==0&& !t'.isN))&& !u.ag&& !Z0p tys d&& !Z0p tys f then
      bif lim (List.length (α:=El e) l+List.length (α:=El e) m) then
       (match Z0K c.τ c.x c.tg p.path ⟨.slice e,false,(l:List (El e))++m,[.O]⟩ with
        | some b=>k (Z0X p σ2.slots 0 ((σ2.hold p).kill.refill p ⟨c.τ,c.ag,b.1,b.2⟩))
        | none=>none)
      else none
     else none
    | none=>none
   | _,_,_,_=>none
  | none=>none
 | _,_=>none
def Z83 (h:Sig R) (τ:Ty) (ms:List Mode) (p:Place) (j:List Operand) (σ:State) (k:State->Option R):Option R:=
 Z0n ms j σ ⟨[],[],true⟩ λa b=>
  match b.content p,b.getAt p with
  | some c,some u=>
   if decide (u.τ=τ)&&c.allO&&u.allO&&Z5a b p&&Z4g a.lent&&a.vals.all TVal.noN then
    match (b.hold p).boxesAt a.lent with
    | some ext=>if ext.all TVal.noN then h.run ({ u with ag:=false }::a.vals) ext λg f d=>
      match g,f with
      | [v],[]=>if decide (v.τ=τ)&&v.ag==false&&v.allO then
        (match Z0K c.τ c.x c.tg p.path v with
         | some i=>k (Z0X p b.slots 0 (((b.hold p).renil.kill.putBoxes a.lent d).refill p ⟨c.τ,c.ag,i.1,i.2⟩))
         | none=>none)
       else none
      | _,_=>none
     else none
    | none=>none
   else none
  | _,_=>none
def Z5U (Γ:Env R) (σ:State) (o:Oper) (rest:List Oper):Option (Nat×Place):=
 match o.dst,o.guard,o.op with
 | some d,none,.call c=>
  match c.args.toList with
  | s::_=>
   match σ.peek s with
   | .ref p false=>
    if Z32 d p rest then
     match σ.content p with
     | some h=>if h.allO&&Z5a σ p&&Z2J p.path&&decide (d<σ.slots.length)&&Z8G Γ.np d&&(p.box|| !(d==p.root)) then
       (match c.callee with
        | .builtin .append=>if Z07 p.path then none else some (d,p)
        | .value f=>(match σ.peek f with
         | .clos g []=>(match Z0o Γ.fns g with
          | some b=>(match b.modes with
           | .eat (.slice _) false::_=>if Z07 p.path&& !p.box then none else some (d,p)
           | _=>none)
          | none=>none)
         | _=>none)
        | _=>none) else none
     | none=>none
    else none
   | _=>none
  | []=>none
 | _,_,_=>none
def Z0N (Γ:Env R) (d:Option Nat) (w:TypeId) (σ:State) (k:TV->State->Option R):Op->Option R
 | .assign x=>
  match σ.peek x with
  | .val v=>k (.val v) σ
  | .ref p ag=>(match σ.getAt p with
   | some u=>(match σ.take x u.τ with
    | some (v,σ')=>k (.val v) σ'
    | none=>none)
   | none=>none)
  | .nil=>(match Z0A Γ.tys w with
   | some (.slice e)=>k (.val ⟨.slice e,false,[],[.O]⟩) σ
   | _=>none)
  | .dead=>none
  | .un=>none
  | .tup .. => none
  | tv=>k tv σ
 | .alloc t=>
  match d,Z0A Γ.tys t with
  | some i,some τ=>if i<σ.slots.length then k (.ptr ⟨true,i,[]⟩) (((σ.loosen true i).unpoint i).putBox i (some ⟨τ,false,zero τ,List.replicate (Z05 τ) .O⟩)) else none
  | _,_=>none
 | .box t x=>
  match d,Z0A Γ.tys t with
  | some i,some τ=>match Z8o Γ.np σ x τ with
   | some r=>k (.sptr r τ []) σ
   | none=>match σ.take x τ with
    | some (v,σ')=>if i<σ'.slots.length then k (.ptr ⟨true,i,[]⟩) (((σ'.loosen true i).unpoint i).putBox i (some v)) else none
    | none=>none
  | _,_=>none
 | .build t j=>
  match Z0o Γ.tys t with
  | some (τ,l)=>if l.isEmpty|| !(j.toList.all λp=>decide (p.1<l.length)) then none else Z6R l.length j.toList ⟨τ,true,zero τ,List.replicate (Z05 τ) .O⟩ σ λv σ'=>k (.val v) σ'
  | none=>none
 | .buildSlice t n j=>
  match Z0A Γ.tys t with
  | some (.slice e)=>if j.size==n&& !Z0p Γ.tys t&&decide (n * size e<=16777216) then Z7n e j.toList 0 [] .O σ λl tg σ'=>k (.val ⟨.slice e,false,l,[tg.over]⟩) σ' else none
  | _=>none
 | .store t a x=>
  match Z0A Γ.tys t,σ.peek a with
  | some τ,.ptr p=>match σ.take x τ with
   | some (v,σ')=>(match (σ'.loosen true p.root).setAt p v with
    | some q=>k .dead q
    | none=>none)
   | none=>none
  | some τ,.eref p=>match σ.take x τ with
   | some (v,σ')=>if v.allO&& !Z07 p.path&&(p.box||(σ'.slot p.root).isVal) then
     (match (σ'.content p) with
      | some r=>if r.allO then
        (match ((σ'.loosen p.box p.root).kill.setAt p v) with
        | some q=>k .dead (Z0X p σ'.slots 0 q)
        | none=>none) else none
      | none=>none) else none
   | none=>none
  | _,_=>none
 | .convert s t x=>
  if Z0p Γ.tys s||Z0p Γ.tys t then none else
  match Z0A Γ.tys s,Z0A Γ.tys t,σ.look x with
  | some .str,some (.slice (.int .u8)),some ⟨.str,false,b,_⟩=>bif lim (ByteArray.size b) then k (.val ⟨.slice (.int .u8),false,Z1k b,[.O]⟩) σ else none
  | _,_,_=>none
 | .makeSlice t n c=>
  if Z0p Γ.tys t then none else
  match Z0A Γ.tys t,σ.look n,σ.look c with
  | some (.slice e),some ⟨.int .i64,false,m,_⟩,some ⟨.int .i64,false,z,_⟩=>
   bif decide ((0:Int)<=m/\(m:Int)<=z/\(z:Int)<=(LIM:Int)) then k (.val ⟨.slice e,false,List.replicate (Int.toNat m) (zero e),[.O]⟩) σ else none
  | _,_,_=>none
 | .call c=>
  match c.callee with
  | .builtin .append=>
   (match c.args.toList,c.argTypes.toList with
    | [s,x],[A,B]=>Z7R Γ.tys A B s x σ k
    | _,_=>none)
  | .value f=>
   (match σ.peek f with
    | .clos g j=>(match Z0o Γ.fns g with
     | some h=>if h.modes.all Mode.isLook&& !h.modes.isEmpty then
       (match σ.placesVal j with
       | some vs=>Z6Q h c.args.toList vs σ k
       | none=>none)
      else (match h.modes,c.args.toList,j with
      | .inout τ ag::ms,o::y,[]=>Z5Q h τ ag ms o y σ k
      | _,y,j=>Z82 h y j σ k)
     | none=>none)
    | .sclos g C v=>(match Z0o Γ.fns g,Z4k C v.τ v.x with
     | some h,some vs=>if h.modes.all Mode.isLook&& !h.modes.isEmpty then Z6Q h c.args.toList vs σ k else none
     | _,_=>none)
    | _=>none)
  | _=>none
 | _=>none
def opC (Γ:Env R) (d:Option Nat) (b:TypeId) (σ:State) (k:TV->State->Option R) (f:Op):Option R:=
 match Z0l Γ.tys σ f with
 | some (g,tv)=>bif g then k tv σ else none
 | none=>Z0N Γ d b σ k f
def Z4D (Γ:Env R) (o:Oper) (σ:State) (k:State->Option R):Option R:=
 match o.op with
 | .pick c a b=>
  match σ.look c with
  | some ⟨.bool,false,t,_⟩=>
   bif t then (match Z0l Γ.tys σ (.move a) with | some (_,tv)=>k (σ.puto o.dst tv) | none=>none)
   else (match Z0l Γ.tys σ (.move b) with | some (_,tv)=>k (σ.puto o.dst tv) | none=>none)
  | _=>none
 | d=>opC Γ o.dst o.type σ (λtv σ'=>k (σ'.puto o.dst tv)) d
def State.know (σ:State) (g:Nat) (b:Bool):State:={ σ with slots:=Z0I σ.slots g (.val (Z0z .bool b)) }
def Z4C (np:Nat) (d:Option Nat):Bool:=match d with | some i=>decide (np<=i) | none=>true
def Z1u (Γ:Env R) (f:List Oper) (o:Oper) (σ:State) (k:State->Option R):Option R:=
 if Z4C Γ.np o.dst then
  match o.guard with
  | none=>Z4D Γ o σ k
  | some (j,d)=>
   match (f[j]?).bind (·.dst) with
   | some g=>
    match σ.slot g with
    | .val ⟨.bool,false,b,_⟩=>
     bif b then (if d then Z4D Γ o (σ.know g true) k else k ((σ.know g true).puto o.dst .un))
     else (if d then k ((σ.know g false).puto o.dst .un) else Z4D Γ o (σ.know g false) k)
    | .un=>k (σ.puto o.dst .un)
    | _=>none
   | none=>none
 else none
def Z4H (Γ:Env R) (p:Place):List Oper->State->(State->Option R)->Option R
 | [],_,_=>none
 | [o],σ,k=>
  match o.op with
  | .store t y _=>(match Z0A Γ.tys t,σ.peek y with
   | some (.slice _),.eref q=>if q.box==p.box&&q.root==p.root&& !Z0p Γ.tys t then bif Z3v q.path p.path then k σ else none else none
   | some (.slice _),.ptr q=>if q.box==p.box&&q.root==p.root&& !Z0p Γ.tys t then bif Z3v q.path p.path then k σ else none else none
   | _,_=>none)
  | _=>none
 | o::l,σ,k=>
  if Z4C Γ.np o.dst then
   (match Z0l Γ.tys σ o.op with
    | some (g,tv)=>bif g then Z4H Γ p l (σ.puto o.dst tv) k else none
    | none=>none)
  else none
def Z8i (Γ:Env R) (d:Nat) (p:Place) (o:Oper) (σ:State) (k:State->Option R):Option R:=
 match o.op with
 | .call c=>
  match c.callee with
  | .builtin .append=>
   (match c.args.toList,c.argTypes.toList with
    | [_,x],[i,j]=>Z6f Γ.tys i j p x σ λσ'=>k (σ'.puto (some d) .dead)
    | _,_=>none)
  | .value f=>
   (match σ.peek f with
    | .clos g []=>(match Z0o Γ.fns g with
     | some b=>(match b.modes,c.args.toList with
      | .eat (.slice e) false::ms,_::h=>Z83 b (.slice e) ms p h σ λσ'=>k (σ'.puto (some d) .dead)
      | _,_=>none)
     | none=>none)
    | _=>none)
  | _=>none
 | _=>none
def Z4j (Γ:Env R) (d:Nat) (p:Place) (o:Oper) (rest:List Oper) (σ:State) (k:State->Option R):Option R:=
 Z8i Γ d p o σ λσ'=>Z4H Γ p rest σ' k
def Z5n:Op->Bool
 | .call c=>(match c.callee with | .builtin .append=>true | .value _=>true | _=>false)
 | _=>false
def Z1j (b:List Oper):List Nat->Option (List Oper)
 | []=>some []
 | i::l=>match b[i]?,Z1j b l with | some o,some r=>some (o::r) | _,_=>none
def Z5H (Γ:Env R) (b:List Oper):List Nat->State->(State->Option R)->Option R
 | [],σ,k=>k σ
 | i::rest,σ,k=>
  match b[i]? with
  | some o=>
   if Z5n o.op then
    (match (Z1j b rest).bind (Z5U Γ σ o) with
     | some (d,p)=>(match Z1j b rest with | some l=>Z4j Γ d p o l σ k | none=>none)
     | none=>Z1u Γ b o σ λσ'=>Z5H Γ b rest σ' k)
   else Z1u Γ b o σ λσ'=>Z5H Γ b rest σ' k
  | none=>none
def Z1P (Γ:Env R) (d:Op):Bool:=
 match d with
 | .store .. => false
 | .call c=>match c.callee with
  | .value (.func f)=>match Z0o Γ.fns f with
   | some b=>b.modes.all Mode.isBorrow||(b.modes.all Mode.isSee&& !b.modes.isEmpty)
   | none=>false
  | .value _=>false
  | _=>true
 | _=>true
def Z1K (Γ:Env R) (d:Op):Bool:=
 match d with
 | .store .. => false
 | .call c=>match c.callee with
  | .value (.func f)=>match Z0o Γ.fns f with
   | some b=>b.modes.all Mode.noLend||(b.modes.all Mode.isSee&& !b.modes.isEmpty)
   | none=>false
  | .value _=>false
  | _=>true
 | _=>true
def Z2b (σ:State):Op->Bool
 | .load _ x=>match σ.peek x with | .ptr _=>true | _=>false
 | .convert _ _ x=>match σ.peek x with | .val ⟨.int _,_,_,_⟩=>true | _=>false
 | _=>true
def Z2g (tys:List (TypeId×Ty×List TypeId)) (b:Op):Bool:=match b with | .pick .. => true | b=>Z69 tys b
inductive Plan where
 | done
 | go (i:Nat) (p:Plan)
 | gob (i:Nat) (p:Plan)
 | alt (i:Nat) (p q:Plan)
def Z80 (x y:Option R):Option R:=match x with | some _=>y | none=>none
def Z4P (f:Nat->Option Plan):List Nat->Option Plan
 | []=>some .done
 | [i]=>(f i).map (.go i)
 | i::l=>match f i,Z4P f l with | some p,some q=>some (.alt i p q) | _,_=>none
def Z19 (Γ:Env R) (d:Array Oper):Nat->Array Bool->Option Plan
 | 0,b=>if (Region.ready .any d b).isEmpty then some .done else none
 | n+1,b=>
  let rs:=Region.ready .any d b
  match rs.find? (λi=>match d[i]? with
    | some o=>Z2g Γ.tys o.op&&Region.free .any d b i&&(List.range d.size).all λj=>j==i||b.getD j true ||
      (match d[j]? with | some f=>f.after.any (λe=>Region.binds .any e&&e.on==i)||Z1P Γ f.op | none=>true)
    | none=>false) with
  | some i=>(Z19 Γ d n (b.setIfInBounds i true)).map (.go i)
  | none=>
   match rs.find? (λi=>match d[i]? with
     | some o=>Z2g Γ.tys o.op&&Region.free .any d b i&&(List.range d.size).all λj=>j==i||b.getD j true ||
       (match d[j]? with | some f=>f.after.any (λe=>Region.binds .any e&&e.on==i)||Z1K Γ f.op | none=>true)
     | none=>false) with
   | some i=>(Z19 Γ d n (b.setIfInBounds i true)).map (.gob i)
   | none=>Z4P (λi=>Z19 Γ d n (b.setIfInBounds i true)) rs
def Z13 (b:List Oper):Nat->Plan->Option (List Nat)
 | _,.done=>some []
 | i,.go j p=>match b[j]? with
  | some o=>if o.after.any (λe=>Region.binds .any e&&e.on==i) then (Z13 b j p).map (j:: ·) else none
  | none=>none
 | _,_=>none
def Z26 (Γ:Env R) (b:List Oper):Plan->State->(State->Option R)->Option R
 | .done,σ,k=>k σ
 | .go i p,σ,k=>
  match b[i]? with
  | some o=>
   if Z5n o.op then
    (match ((Z13 b i p).bind (Z1j b)).bind (Z5U Γ σ o) with
     | some (d,q)=>(match (Z13 b i p).bind (Z1j b) with | some l=>Z4j Γ d q o l σ k | none=>none)
     | none=>Z1u Γ b o σ λσ'=>Z26 Γ b p σ' k)
   else Z1u Γ b o σ λσ'=>Z26 Γ b p σ' k
  | none=>none
 | .gob i p,σ,k=>
  match b[i]? with
  | some o=>bif Z2b σ o.op then Z1u Γ b o σ λσ'=>Z26 Γ b p σ' k else none
  | none=>none
 | .alt i p q,σ,k=>
  match b[i]? with
  | some o=>Z80 (Z1u Γ b o σ λσ'=>Z26 Γ b p σ' k) (Z26 Γ b q σ k)
  | none=>none
inductive Ex where
 | normal | exit (id:Nat) | ret
abbrev Z7W (R:Type):=Ex->State->Option R
abbrev Z1q (R:Type):=State->Z7W R->Option R
inductive HT where
 | o | x (i:Nat) | t (a b:HT)
def HT.l:HT->HT
 | .t a _=>a
 | _=> .o
def HT.r:HT->HT
 | .t _ b=>b
 | _=> .o
def Z22:List Nat->Nat->List TV->List TV
 | _,_,[]=>[]
 | ks,i,tv::l=>(if ks.contains i then tv else .dead)::Z22 ks (i+1) l
def Z3b:List Nat->Nat->List (Option TVal)->List (Option TVal)
 | _,_,[]=>[]
 | ks,i,b::l=>(if ks.contains i then b else none)::Z3b ks (i+1) l
def State.forget (σ:State) (ks b:List Nat):State:=⟨Z22 ks 0 σ.slots,Z3b b 0 σ.boxes⟩
def Z4y (b:Z1q R) (d:State->State) (f:Ex->State->State):Nat->Z1q R
 | 0,_,_=>none
 | n+1,σ,k=>b σ λe σ'=>match e with
  | .normal=>Z4y b d f n (d σ') k
  | e=>k e (f e σ')
def Z0S (Γ:Env R) (X:List (Z1q R)):HT->Code->Z1q R
 | .x i,_=>λσ k=>Z0v (λ_ _=>none) X i σ k
 | _,.skip=>λσ k=>k .normal σ
 | _,.region _ d f=>λσ k=>
  if f then
   (match (if Region.noSelect d then Z19 Γ d d.size (Array.replicate d.size false) else none) with
    | some l=>Z26 Γ d.toList l σ λσ'=>k .normal σ'
    | none=>none)
  else Z5H Γ d.toList (List.range d.size) σ λσ'=>k .normal σ'
 | h,.seq a b=>λσ k=>Z0S Γ X h.l a σ λe σ'=>match e with
  | .normal=>Z0S Γ X h.r b σ' k
  | e=>k e σ'
 | h,.cond (.tmp t) a b=>λσ k=>
  match σ.slot t with
  | .val ⟨.bool,false,x,_⟩=>bif x then Z0S Γ X h.l a (σ.know t true) k else Z0S Γ X h.r b (σ.know t false) k
  | _=>none
 | h,.cond (.const (.bool x)) a b=>λσ k=>bif x then Z0S Γ X h.l a σ k else Z0S Γ X h.r b σ k
 | h,.block g c=>λσ k=>Z0S Γ X h.l c σ λe σ'=>match e with
  | .exit j=>if j==g then k .normal σ' else k (.exit j) σ'
  | e=>k e σ'
 | _,.exit g=>λσ k=>k (.exit g) σ
 | h,.scope c=>λσ k=>Z0S Γ X h.l c σ k
 | _,.ret=>λσ k=>k .ret σ
 | _,_=>λ_ _=>none
def Z0h (n:Nat):List Mode->List TVal->Nat->List TV
 | .borrow _ ag::ms,v::vs,j=> .val { v with ag:=ag,tg:=List.replicate (Z05 v.τ) .S }::Z0h n ms vs j
 | .consume _ ag::ms,v::vs,j=> .val { v with ag:=ag }::Z0h n ms vs j
 | .eat _ ag::ms,v::vs,j=> .val { v with ag:=ag }::Z0h n ms vs j
 | .inout _ ag::ms,v::vs,j=> .val { v with ag:=ag }::Z0h n ms vs j
 | .ptr _::ms,vs,j=> .ptr ⟨true,n+j,[]⟩::Z0h n ms vs (j+1)
 | .look _ ag::ms,v::vs,j=> .val { v with ag:=ag,tg:=List.replicate (Z05 v.τ) .S }::Z0h n ms vs j
 | .rptr _::ms,v::vs,j=> .eptr (Z5p v.τ v.x) .S::Z0h n ms vs j
 | .rclos f b::ms,v::vs,j=> .sclos f b (Z5p v.τ v.x)::Z0h n ms vs j
 | .clos f b::ms,vs,j=> .clos f ((List.range b.length).map λi=>⟨true,n+j+i,[]⟩)::Z0h n ms vs (j+b.length)
 | _,_,_=>[]
def Z1O {α:Type} (d:α):Nat->List α->List α
 | 0,_=>[]
 | n+1,[]=>d::Z1O d n []
 | n+1,a::l=>a::Z1O d n l
def Z3U (b:Nat) (modes:List Mode) (vals ext:List TVal):State:=
 { slots:=Z1O .dead b (Z0h b modes vals 0),boxes:=Z1O none b []++ext.map some }
def Z1V (tys:List (TypeId×Ty×List TypeId)):List ResultVar->List Bool->State->List TVal->Option (List TVal×State)
 | [],_,σ,b=>some (b.reverse,σ)
 | .tmp t::rs,ag::ags,σ,b=>
  (match σ.look (.tmp t) with
   | some v=>if v.ag==ag then (match σ.take (.tmp t) v.τ with
    | some (u,σ')=>Z1V tys rs ags σ' (u::b)
    | none=>none) else none
   | none=>none)
 | .cell a ty::rs,ag::ags,σ,b=>
  (match Z0A tys ty,σ.slot a with
   | some τ,.ptr p=>(match σ.getAt p with
    | some v=>if v.τ=τ/\Z0p tys ty=ag/\Z07 p.path then (match σ.setAt p v.alias with
      | some σ'=>Z1V tys rs ags σ' ({ v with ag:=ag }::b)
      | none=>none) else none
    | none=>none)
   | _,_=>none)
 | _,_,_,_=>none
def ioC (np:Nat):List Mode->Nat->State->Option (List TVal×State)
 | [],_,σ=>some ([],σ)
 | .inout τ ag::ms,i,σ=>
  match σ.take (.tmp i) τ with
  | some (u,σ')=>if decide (i<np)&&u.allO&&u.ag==ag then (ioC np ms (i+1) σ').map λr=>(u::r.1,r.2) else none
  | none=>none
 | _::ms,i,σ=>ioC np ms (i+1) σ
def Z2I:List Mode->List Ty
 | .inout τ _::ms=>τ::Z2I ms
 | _::ms=>Z2I ms
 | []=>[]
def Z2U:List TVal->List TVal->Bool
 | [],[]=>true
 | u::us,v::vs=>decide (u.τ=v.τ)&&Z2U us vs
 | _,_=>false
def Z8d (Γ:Env R) (X:List (Z1q R)) (ht:HT) (fz:Bool) (fn:Func) (modes:List Mode) (ags:List Bool) (vals ext:List TVal)
  (k:List TVal->List TVal->List TVal->Option R):Option R:=
 match fn.body with
 | none=>none
 | some c=>Z0S Γ X ht c (Z3U fn.ntmps modes vals ext) λe σ=>
  match e with
  | .exit _=>none
  | _=>match Z1V Γ.tys fn.results.toList ags σ [] with
   | some (f,g)=>(match ioC Γ.np modes 0 g with
    | some (d,σ')=>(match σ'.boxesAt ((List.range ext.length).map (fn.ntmps+ ·)) with
     | some b=>if decide (σ'.slots.length=fn.ntmps)&&Z2U ext b&&b.all TVal.noN&&((!fz&&f.all TVal.noN)||(d.isEmpty&&b.all λv=>v.tg.all λt=> !t.own)) then k (Z21 fz f) d b else none
     | none=>none)
    | none=>none)
   | none=>none
end
end
end Go.PI
namespace Go.PI
def Z04 (w:World) (b o n:Nat):Option (List Value):=
 match w.heap[b]? with
 | some (.cells c _ _)=>if o+n<=c.size then some ((c.toList.drop o).take n) else none
 | _=>none
def Z3W (c:Array Value) (fr:Nat×Nat):Prop:=∀ j,j<c.size->¬ (fr.1<=j/\j<fr.2)
def Row (w:World) (b n:Nat):Prop:=∃ c T fr,w.heap[b]? = some (.cells c T fr)/\n<=c.size/\Z3W c fr
def Z2B (w:World) (b:Nat):Prop:=∃ c T fr,w.heap[b]? = some (.cells c T fr)/\¬ (fr.1<=c.size/\c.size<fr.2)
def Z3g (e:Ty) (w:World) (b n:Nat):Prop:=Row w b n/\(e= .int .u8\/Z2B w b)
def Z5e (St Al:Nat->Prop):Tag->Nat->Prop
 | .S,b=>St b
 | .PS,b=>St b
 | _,b=>Al b
def Rp (w:World) (F:Nat->Nat) (St Al:Nat->Prop):(τ:Ty)->List Tag->List Value->El τ->List Nat->Prop
 | .int k,tg,cs,x,fp=>cs=[.int k x]/\tg=[]/\fp=[]
 | .bool,tg,cs,x,fp=>cs=[.bool x]/\tg=[]/\fp=[]
 | .str,tg,cs,x,fp=>cs=[.string x]/\tg=[]/\fp=[]
 | .unit,tg,cs,_,fp=>cs=[]/\tg=[]/\fp=[]
 | .pair a b,tg,cs,x,fp=>∃ i j c1 c2 f g,tg=i++j/\cs=c1++c2/\fp=f++g/\Rp w F St Al a i c1 x.1 f/\Rp w F St Al b j c2 x.2 g
 | .slice e,tg,cs,x,fp=>∃ t a cap,tg=[t]/\cs=[.slice a (List.length (α:=El e) x) cap]/\List.length (α:=El e) x<=cap /\
   ((t.own=true/\a=none/\x=[]/\cap=0/\fp=[]) \/
    (t.own=true/\∃ b o fps,a=some ⟨b,o,none⟩/\Al b/\fp=b::List.flatten fps/\fps.length=List.length (α:=El e) x/\Z3g e w b (o+cap * size e) /\
     F b=o+List.length (α:=El e) x * size e /\
     ∀ k (h:k<List.length (α:=El e) x),∃ d,Z04 w b (o+k * size e) (size e)=some d/\Rp w F St Al e (List.replicate (Z05 e) t.inner) d (List.get (α:=El e) x ⟨k,h⟩) (fps.getD k [])) \/
    (t.own=false/\fp=[]/\(x=[]\/∃ b o,a=some ⟨b,o,none⟩/\Z5e St Al t b/\o+List.length (α:=El e) x * size e<=F b /\
     ∀ k (h:k<List.length (α:=El e) x),∃ d,Z04 w b (o+k * size e) (size e)=some d/\Rp w F St Al e (List.replicate (Z05 e) t.inner) d (List.get (α:=El e) x ⟨k,h⟩) [])))
theorem Z0Y {w:World} {b o n:Nat} {cs:List Value} (h:Z04 w b o n=some cs):b<w.heap.size:=by
 unfold Z04 at h
 split at h
 ·rename_i d;exact (Array.getElem?_eq_some_iff.1 d).1
 ·cases h
theorem Z1z {w:World} {b o n:Nat} {cs:List Value} (h:Z04 w b o n=some cs):cs.length=n:=by
 unfold Z04 at h
 split at h
 ·split at h
  ·cases h;simp;omega
  ·cases h
 ·cases h
theorem Row.lt {w:World} {b n:Nat} (h:Row w b n):b<w.heap.size:=by
 obtain ⟨c,T,fr,d,_⟩:=h;exact (Array.getElem?_eq_some_iff.1 d).1
theorem Row.cells {w:World} {b n o m:Nat} (h:Row w b n) (f:o+m<=n):∃ cs,Z04 w b o m=some cs:=by
 obtain ⟨c,T,fr,d,g,_⟩:=h
 exact ⟨_,by unfold Z04;rw [d];simp only [];rw [if_pos (by omega)]⟩
theorem Row.mono {w:World} {b n m:Nat} (h:Row w b n) (f:m<=n):Row w b m:=by
 obtain ⟨c,T,fr,d,g,ht⟩:=h;exact ⟨c,T,fr,d,by omega,ht⟩
theorem Z3g.lt {e:Ty} {w:World} {b n:Nat} (h:Z3g e w b n):b<w.heap.size:=h.1.lt
theorem Z3g.cells {e:Ty} {w:World} {b n o m:Nat} (h:Z3g e w b n) (d:o+m<=n):∃ cs,Z04 w b o m=some cs:=h.1.cells d
theorem Z3g.mono {e:Ty} {w:World} {b n m:Nat} (h:Z3g e w b n) (d:m<=n):Z3g e w b m:=⟨h.1.mono d,h.2⟩
section
variable {w:World} {F:Nat->Nat} {St Al:Nat->Prop}
theorem Rp.len:{τ:Ty}->{tg:List Tag}->{cs:List Value}->{x:El τ}->{fp:List Nat}->Rp w F St Al τ tg cs x fp->cs.length=size τ/\tg.length=Z05 τ
 | .int _,_,_,_,_,h=>by obtain ⟨rfl,rfl,rfl⟩:=h;exact ⟨rfl,rfl⟩
 | .bool,_,_,_,_,h=>by obtain ⟨rfl,rfl,rfl⟩:=h;exact ⟨rfl,rfl⟩
 | .str,_,_,_,_,h=>by obtain ⟨rfl,rfl,rfl⟩:=h;exact ⟨rfl,rfl⟩
 | .unit,_,_,_,_,h=>by obtain ⟨rfl,rfl,rfl⟩:=h;exact ⟨rfl,rfl⟩
 | .slice _,_,_,_,_,h=>by obtain ⟨t,a,cap,rfl,rfl,_⟩:=h;exact ⟨rfl,rfl⟩
 | .pair a b,_,_,_,_,h=>by
  obtain ⟨l,m,c1,c2,j,k,rfl,rfl,rfl,d,f⟩:=h
  have g:=Rp.len d
  have i:=Rp.len f
  simp [size,Z05,g,i]
theorem Rp.lt:{τ:Ty}->{tg:List Tag}->{cs:List Value}->{x:El τ}->{fp:List Nat}->Rp w F St Al τ tg cs x fp->∀ b∈fp,b<w.heap.size
 | .int _,_,_,_,_,h=>by obtain ⟨rfl,rfl,rfl⟩:=h;simp
 | .bool,_,_,_,_,h=>by obtain ⟨rfl,rfl,rfl⟩:=h;simp
 | .str,_,_,_,_,h=>by obtain ⟨rfl,rfl,rfl⟩:=h;simp
 | .unit,_,_,_,_,h=>by obtain ⟨rfl,rfl,rfl⟩:=h;simp
 | .slice e,_,_,_,_,h=>by
  obtain ⟨t,a,cap,rfl,rfl,_,h⟩:=h
  rcases h with ⟨_,_,_,_,rfl⟩ | ⟨_,b,o,fps,_,_,rfl,A,r,_,n⟩ | ⟨_,rfl,_⟩
  ·simp
  ·intro c d
   rcases List.mem_cons.1 d with rfl | d
   ·exact r.lt
   ·obtain ⟨f,p,g⟩:=List.mem_flatten.1 d
    obtain ⟨k,q,rfl⟩:=List.mem_iff_getElem.1 p
    obtain ⟨j,_,i⟩:=n k (by omega)
    refine Rp.lt i c ?_
    rw [List.getD_eq_getElem?_getD,List.getElem?_eq_getElem q];exact g
  ·simp
 | .pair a b,_,_,_,_,h=>by
  obtain ⟨B,C,c1,c2,y,z,rfl,rfl,rfl,l,m⟩:=h
  intro c d
  rcases List.mem_append.1 d with d | d
  ·exact Rp.lt l c d
  ·exact Rp.lt m c d
def Z06 (w:World) (F:Nat->Nat) (w':World) (F':Nat->Nat) (b:Nat):Prop:=
 F b<=F' b/\(∀ o n cs,o+n<=F b->Z04 w b o n=some cs->Z04 w' b o n=some cs)/\(∀ n,Row w b n->Row w' b n)/\(Z2B w b->Z2B w' b)
theorem Z06.rowE {w:World} {F:Nat->Nat} {w':World} {F':Nat->Nat} {b:Nat} (h:Z06 w F w' F' b) {e:Ty} {n:Nat} (d:Z3g e w b n):Z3g e w' b n:=⟨h.2.2.1 n d.1,d.2.imp id h.2.2.2⟩
theorem Z06.refl (w:World) (F:Nat->Nat) (b:Nat):Z06 w F w F b:=⟨Nat.le_refl _,λ_ _ _ _ h=>h,λ_ h=>h,λh=>h⟩
theorem Z06.trans {w1 w2 j:World} {d f g:Nat->Nat} {b:Nat} (h:Z06 w1 d w2 f b) (k:Z06 w2 f j g b):Z06 w1 d j g b:=
 ⟨Nat.le_trans h.1 k.1,λo n cs i l=>k.2.1 o n cs (Nat.le_trans i h.1) (h.2.1 o n cs i l),λn p=>k.2.2.1 n (h.2.2.1 n p),λm=>k.2.2.2 (h.2.2.2 m)⟩
theorem Z06.of_block {w w':World} {F F':Nat->Nat} {b:Nat} (h:w'.heap[b]? = w.heap[b]?) (f:F b<=F' b):Z06 w F w' F' b:=
 ⟨f,λo n cs _ g=>by unfold Z04 at *;rw [h];exact g,λn d=>by unfold Row at *;rw [h];exact d,λd=>by unfold Z2B at *;rw [h];exact d⟩
theorem Rp.pres {w':World} {F':Nat->Nat} {St' Al':Nat->Prop} (i:∀ b,St b->St' b) (d:∀ b,b<w.heap.size->Al b->Al' b) (n:∀ b,St b->Z06 w F w' F' b) :
  {τ:Ty}->{tg:List Tag}->{cs:List Value}->{x:El τ}->{fp:List Nat}->Rp w F St Al τ tg cs x fp ->
  (∀ b∈fp,Z06 w F w' F' b/\F' b=F b)->((∀ t∈tg,t.isN=false)\/∀ b,b<w.heap.size->Al b->Z06 w F w' F' b)->Rp w' F' St' Al' τ tg cs x fp
 | .int _,_,_,_,_,h,_,_=>h
 | .bool,_,_,_,_,h,_,_=>h
 | .str,_,_,_,_,h,_,_=>h
 | .unit,_,_,_,_,h,_,_=>h
 | .pair a b,_,_,_,_,h,j,g=>by
  obtain ⟨U,V,c1,c2,L,M,rfl,rfl,rfl,P,Q⟩:=h
  refine ⟨U,V,c1,c2,L,M,rfl,rfl,rfl,Rp.pres i d n P (λb E=>j b (List.mem_append_left _ E)) ?_,Rp.pres i d n Q (λb E=>j b (List.mem_append_right _ E)) ?_⟩
  ·exact g.imp (λh t ht=>h t (List.mem_append_left _ ht)) id
  ·exact g.imp (λh t ht=>h t (List.mem_append_right _ ht)) id
 | .slice e,_,_,x,_,h,j,g=>by
  obtain ⟨t,a,cap,rfl,rfl,I,h⟩:=h
  have m:((∀ t'∈List.replicate (Z05 e) t.inner,t'.isN=false)\/∀ b,b<w.heap.size->Al b->Z06 w F w' F' b):=
   g.imp (λh t' J=>by
    obtain ⟨_,rfl⟩:=List.mem_replicate.1 J
    have:=h t (by simp)
    cases t<;>simp_all [Tag.isN,Tag.inner]) id
  refine ⟨t,a,cap,rfl,rfl,I,?_⟩
  rcases h with h | ⟨B,b,o,fps,C,D,rfl,R,K,z,A⟩ | ⟨B,rfl,h⟩
  ·exact .inl h
  ·refine .inr (.inl ⟨B,b,o,fps,C,d b K.lt D,rfl,R,?_,?_,λk q=> ?_⟩)
   ·exact ((j b (by simp)).1).rowE K
   ·rw [(j b (by simp)).2];exact z
   ·obtain ⟨f,p,l⟩:=A k q
    refine ⟨f,((j b (by simp)).1).2.1 _ _ _ ?_ p,Rp.pres i d n l (λc H=>j c ?_) m⟩
    ·rw [z]
     have:(k+1) * size e<=List.length (α:=El e) x * size e:=Nat.mul_le_mul_right _ q
     rw [Nat.add_mul,Nat.one_mul] at this
     omega
    ·refine List.mem_cons_of_mem _ (List.mem_flatten.2 ⟨_,?_,H⟩)
     rw [List.getD_eq_getElem?_getD,List.getElem?_eq_getElem (by omega)]
     exact List.getElem_mem _
  ·refine .inr (.inr ⟨B,rfl,?_⟩)
   rcases h with h | ⟨b,o,C,y,z,A⟩
   ·exact .inl h
   ·by_cases T:(List.length (α:=El e) x)=0
    ·exact .inl (List.length_eq_zero_iff.1 T)
    have G:b<w.heap.size:=by
     obtain ⟨f,p,_⟩:=A 0 (by omega)
     exact Z0Y p
    have r:Z06 w F w' F' b:=by
     rcases g with g | g
     ·have:=g t (by simp)
      cases t<;>simp_all [Tag.isN,Tag.own,Z5e]
     ·cases t with
      | S=>exact n b y
      | N=>exact g b G y
      | _=>cases B
    refine .inr ⟨b,o,C,?_,Nat.le_trans z r.1,λk q=> ?_⟩
    ·cases t<;>simp_all [Z5e]
    ·obtain ⟨f,p,l⟩:=A k q
     refine ⟨f,r.2.1 _ _ _ ?_ p,Rp.pres i d n l (by simp) m⟩
     have:(k+1) * size e<=List.length (α:=El e) x * size e:=Nat.mul_le_mul_right _ q
     rw [Nat.add_mul,Nat.one_mul] at this
     omega
def Tag.weak (St':Nat->Prop) (fp:List Nat) (t t':Tag):Prop:=t'= .N\/(t'= .S/\(t= .S\/((t= .O\/t= .PS)/\∀ b∈fp,St' b)))
theorem Rp.weaken {St':Nat->Prop} (j:∀ b,St b->St' b) (n:∀ b,St b->Al b) :
  {τ:Ty}->{tg d:List Tag}->{cs:List Value}->{x:El τ}->{fp:List Nat}->Rp w F St Al τ tg cs x fp ->
  d.length=tg.length->(∀ i (h:i<tg.length) (r:i<d.length),Tag.weak St' fp tg[i] d[i])->Rp w F St' Al τ d cs x []
 | .int _,_,_,_,_,_,h,l,_=>by obtain ⟨rfl,rfl,rfl⟩:=h;exact ⟨rfl,by simpa using l,rfl⟩
 | .bool,_,_,_,_,_,h,l,_=>by obtain ⟨rfl,rfl,rfl⟩:=h;exact ⟨rfl,by simpa using l,rfl⟩
 | .str,_,_,_,_,_,h,l,_=>by obtain ⟨rfl,rfl,rfl⟩:=h;exact ⟨rfl,by simpa using l,rfl⟩
 | .unit,_,_,_,_,_,h,l,_=>by obtain ⟨rfl,rfl,rfl⟩:=h;exact ⟨rfl,by simpa using l,rfl⟩
 | .pair a b,_,d,_,_,_,h,l,C=>by
  obtain ⟨D,Y,c1,c2,Z,f2,rfl,rfl,rfl,y,z⟩:=h
  have V:d.length=D.length+Y.length:=by simpa using l
  refine ⟨d.take D.length,d.drop D.length,c1,c2,[],[],(List.take_append_drop _ _).symm,rfl,rfl,Rp.weaken j n y (by simp;omega) ?_,Rp.weaken j n z (by simp;omega) ?_⟩
  ·intro i h r
   have:=C i (by simp;omega) (by simp at r;omega)
   rw [List.getElem_append_left h] at this
   simp only [List.getElem_take]
   exact this.imp id (λ⟨y,z⟩=>⟨y,z.imp id (λ⟨E,G⟩=>⟨E,λb A=>G b (List.mem_append_left _ A)⟩)⟩)
  ·intro i h r
   have:=C (D.length+i) (by simp;omega) (by simp at r;omega)
   rw [List.getElem_append_right (by omega)] at this
   simp only [Nat.add_sub_cancel_left] at this
   simp only [List.getElem_drop]
   exact this.imp id (λ⟨y,z⟩=>⟨y,z.imp id (λ⟨E,G⟩=>⟨E,λb A=>G b (List.mem_append_right _ A)⟩)⟩)
 | .slice e,_,d,_,_,_,h,l,C=>by
  obtain ⟨t,a,cap,rfl,rfl,M,h⟩:=h
  obtain ⟨t',rfl⟩:∃ t',d=[t']:=by
   match d,l with
   | [t'],_=>exact ⟨t',rfl⟩
  have g:=C 0 (by simp) (by simp)
  simp only [List.getElem_cons_zero] at g
  have P:t'.own=false:=by rcases g with rfl | ⟨rfl,_⟩<;>rfl
  refine ⟨t',a,cap,rfl,rfl,M,.inr (.inr ⟨P,rfl,?_⟩)⟩
  have m:∀ (f:List Nat),(∀ b∈f,∀ _:t'= .S,t.inner.own=true->St' b)->∀ i (h:i<(List.replicate (Z05 e) t.inner).length) (r:i<(List.replicate (Z05 e) t'.inner).length),
    Tag.weak St' f (List.replicate (Z05 e) t.inner)[i] (List.replicate (Z05 e) t'.inner)[i]:=by
   intro f U i h r
   simp only [List.getElem_replicate]
   rcases g with rfl | ⟨rfl,h⟩
   ·exact .inl rfl
   ·refine .inr ⟨rfl,?_⟩
    rcases h with rfl | ⟨rfl | rfl,h⟩
    ·exact .inl rfl
    ·exact .inr ⟨.inl rfl,λb A=>U b A rfl rfl⟩
    ·exact .inl rfl
  rcases h with ⟨_,rfl,rfl,rfl,rfl⟩ | ⟨B,b,o,fps,rfl,H,rfl,W,hr,R,K⟩ | ⟨B,rfl,h⟩
  ·exact .inl rfl
  ·refine .inr ⟨b,o,rfl,?_,by omega,λk L=> ?_⟩
   ·rcases g with rfl | ⟨rfl,h⟩
    ·exact H
    ·rcases h with rfl | ⟨_,h⟩
     ·cases B
     ·exact h b (by simp)
   ·obtain ⟨p,I,q⟩:=K k L
    refine ⟨p,I,Rp.weaken j n q (by simp) (m _ λc J X _=> ?_)⟩
    rcases g with rfl | ⟨rfl,h⟩
    ·cases X
    ·rcases h with rfl | ⟨_,h⟩
     ·cases B
     ·refine h c (List.mem_cons_of_mem _ (List.mem_flatten.2 ⟨_,?_,J⟩))
      rw [List.getD_eq_getElem?_getD,List.getElem?_eq_getElem (by omega)]
      exact List.getElem_mem _
  ·rcases h with h | ⟨b,o,T,Q,R,K⟩
   ·exact .inl h
   ·refine .inr ⟨b,o,T,?_,R,λk L=> ?_⟩
    ·rcases g with rfl | ⟨rfl,h⟩
     ·cases t<;>simp_all [Z5e,Tag.own]
     ·rcases h with rfl | ⟨rfl | rfl,h⟩
      ·exact j b Q
      ·cases B
      ·cases B
    ·obtain ⟨p,I,q⟩:=K k L
     exact ⟨p,I,Rp.weaken j n q (by simp) (m _ (by simp))⟩
theorem Rp.alias (d:∀ b,St b->Al b) {τ:Ty} {tg:List Tag} {cs:List Value} {x:El τ} {fp:List Nat} (h:Rp w F St Al τ tg cs x fp):Rp w F St Al τ (tg.map Tag.alias) cs x []:=
 h.weaken (λ_ h=>h) d (by simp) λi h f=>by
  simp only [List.getElem_map]
  cases tg[i]<;>simp [Tag.weak,Tag.alias]
theorem Rp.freeze {St':Nat->Prop} (g:∀ b,St b->St' b) (f:∀ b,St b->Al b) {τ:Ty} {tg:List Tag} {cs:List Value} {x:El τ} {fp:List Nat} (h:Rp w F St Al τ tg cs x fp) (d:∀ b∈fp,St' b) :
  Rp w F St' Al τ (tg.map Tag.freeze) cs x []:=
 h.weaken g f (by simp) λi h j=>by
  simp only [List.getElem_map]
  generalize tg[i]=t
  cases t<;>simp [Tag.weak,Tag.freeze]
  ·exact d
  ·exact d
theorem Rp.fp_nil:{τ:Ty}->{tg:List Tag}->{cs:List Value}->{x:El τ}->{fp:List Nat}->Rp w F St Al τ tg cs x fp->(∀ t∈tg,t.own=false)->fp=[]
 | .int _,_,_,_,_,h,_=>by obtain ⟨rfl,rfl,rfl⟩:=h;rfl
 | .bool,_,_,_,_,h,_=>by obtain ⟨rfl,rfl,rfl⟩:=h;rfl
 | .str,_,_,_,_,h,_=>by obtain ⟨rfl,rfl,rfl⟩:=h;rfl
 | .unit,_,_,_,_,h,_=>by obtain ⟨rfl,rfl,rfl⟩:=h;rfl
 | .slice e,_,_,_,_,h,d=>by
  obtain ⟨t,a,cap,rfl,rfl,_,h⟩:=h
  have:=d t (by simp)
  rcases h with ⟨f,_⟩ | ⟨f,_⟩ | ⟨_,rfl,_⟩
  ·simp_all
  ·simp_all
  ·rfl
 | .pair a b,_,_,_,_,h,d=>by
  obtain ⟨k,l,c1,c2,i,j,rfl,rfl,rfl,f,g⟩:=h
  rw [Rp.fp_nil f λt ht=>d t (List.mem_append_left _ ht),Rp.fp_nil g λt ht=>d t (List.mem_append_right _ ht)];rfl
end
end Go.PI
namespace Go.PI
def Z00 (w:World):(τ:Ty)->List Value->Option (Nat×Nat)->List Step->Option (List Value×Option (Nat×Nat))
 | _,cs,base,[]=>some (cs,base)
 | .pair a b,cs,base,.fst::p=>Z00 w a (cs.take (size a)) base p
 | .pair a b,cs,base,.snd::p=>Z00 w b (cs.drop (size a)) (base.map λx=>(x.1,x.2+size a)) p
 | .slice e,cs,_,.idx i::p=>
  match cs with
  | [.slice (some ⟨b,o,none⟩) len _]=>
   if i<len then
    match Z04 w b (o+i * size e) (size e) with
    | some d=>Z00 w e d (some (b,o+i * size e)) p
    | none=>none
   else none
  | _=>none
 | _,_,_,_=>none
section
variable {w:World} {F:Nat->Nat} {St Al:Nat->Prop}
theorem Z4c {α:Type} (l:List α) (i:Nat) (d:α) (h:i<l.length):l.getD i d=l.get ⟨i,h⟩:=by
 rw [List.getD_eq_getElem?_getD,List.getElem?_eq_getElem h];rfl
theorem Rp.pair_parts {a b:Ty} {tg:List Tag} {cs:List Value} {x:El (.pair a b)} {fp:List Nat} (h:Rp w F St Al (.pair a b) tg cs x fp) :
  ∃ d f,fp=d++f/\Rp w F St Al a (tg.take (Z05 a)) (cs.take (size a)) x.1 d/\Rp w F St Al b (tg.drop (Z05 a)) (cs.drop (size a)) x.2 f:=by
 obtain ⟨k,l,c1,c2,d,f,rfl,rfl,rfl,i,j⟩:=h
 have g:=i.len
 refine ⟨d,f,rfl,?_,?_⟩
 ·rw [<-g.1,<-g.2];simpa using i
 ·rw [<-g.1,<-g.2];simpa using j
theorem Rp.pair_mk {a b:Ty} {g h:List Tag} {c1 c2:List Value} {x:El a} {y:El b} {d f:List Nat} (i:Rp w F St Al a g c1 x d) (j:Rp w F St Al b h c2 y f) :
  Rp w F St Al (.pair a b) (g++h) (c1++c2) (x,y) (d++f):=⟨g,h,c1,c2,d,f,rfl,rfl,rfl,i,j⟩
theorem Rp.get:{path:List Step}->{τ:Ty}->{tg:List Tag}->{cs j:List Value}->{x:El τ}->{fp:List Nat}->{base f:Option (Nat×Nat)}->{u:TVal} ->
  Rp w F St Al τ tg cs x fp->Z00 w τ cs base path=some (j,f)->Z0b τ x tg path=some u ->
  ∃ g,Rp w F St Al u.τ u.tg j u.x g/\∀ b∈g,b∈fp
 | [],τ,tg,cs,j,x,fp,base,f,u,h,d,m=>by
  simp only [Z00,Option.some.injEq,Prod.mk.injEq] at d
  obtain ⟨rfl,rfl⟩:=d
  cases τ<;>(simp only [Z0b,Option.some.injEq] at m;subst m;exact ⟨fp,h,λ_ h=>h⟩)
 | .fst::p,.pair a b,tg,cs,j,x,fp,base,f,u,h,d,m=>by
  obtain ⟨K,L,rfl,G,H⟩:=h.pair_parts
  obtain ⟨g,n,q⟩:=Rp.get (path:=p) G d m
  exact ⟨g,n,λb A=>List.mem_append_left _ (q b A)⟩
 | .snd::p,.pair a b,tg,cs,j,x,fp,base,f,u,h,d,m=>by
  obtain ⟨K,L,rfl,G,H⟩:=h.pair_parts
  obtain ⟨g,n,q⟩:=Rp.get (path:=p) H d m
  exact ⟨g,n,λb A=>List.mem_append_right _ (q b A)⟩
 | .idx i::p,.slice e,tg,cs,j,x,fp,base,f,u,h,d,m=>by
  obtain ⟨t,a,cap,rfl,rfl,Q,h⟩:=h
  simp only [Z00] at d
  split at d
  ·rename_i b o len E y
   simp only [List.cons.injEq,Value.slice.injEq,and_true] at y
   obtain ⟨rfl,rfl,rfl⟩:=y
   split at d
   ·rename_i z
    split at d
    ·rename_i J r
     simp only [Z0b,List.headD_cons] at m
     rw [Z4c _ _ _ z] at m
     rcases h with ⟨_,T,_⟩ | ⟨U,I,o',fps,k,P,rfl,R,W,M,C⟩ | ⟨U,rfl,h⟩
     ·cases T
     ·simp only [Option.some.injEq,Addr.mk.injEq,and_true] at k
      obtain ⟨rfl,rfl⟩:=k
      obtain ⟨c2,l,D⟩:=C i z
      rw [r] at l
      cases l
      obtain ⟨g,n,q⟩:=Rp.get (path:=p) D d m
      refine ⟨g,n,λc B=>List.mem_cons_of_mem _ (List.mem_flatten.2 ⟨_,?_,q c B⟩)⟩
      rw [List.getD_eq_getElem?_getD,List.getElem?_eq_getElem (by omega)]
      exact List.getElem_mem _
     ·rcases h with h | ⟨I,o',k,V,M,C⟩
      ·subst h;simp at z
      ·simp only [Option.some.injEq,Addr.mk.injEq,and_true] at k
       obtain ⟨rfl,rfl⟩:=k
       obtain ⟨c2,l,D⟩:=C i z
       rw [r] at l
       cases l
       obtain ⟨g,n,q⟩:=Rp.get (path:=p) D d m
       exact ⟨g,n,λc B=>by simpa using q c B⟩
    ·cases d
   ·cases d
  ·cases d
 | .fst::_,.int _,_,_,_,_,_,_,_,_,_,d,_=>by simp [Z00] at d
 | .fst::_,.bool,_,_,_,_,_,_,_,_,_,d,_=>by simp [Z00] at d
 | .fst::_,.str,_,_,_,_,_,_,_,_,_,d,_=>by simp [Z00] at d
 | .fst::_,.unit,_,_,_,_,_,_,_,_,_,d,_=>by simp [Z00] at d
 | .fst::_,.slice _,_,_,_,_,_,_,_,_,_,d,_=>by simp [Z00] at d
 | .snd::_,.int _,_,_,_,_,_,_,_,_,_,d,_=>by simp [Z00] at d
 | .snd::_,.bool,_,_,_,_,_,_,_,_,_,d,_=>by simp [Z00] at d
 | .snd::_,.str,_,_,_,_,_,_,_,_,_,d,_=>by simp [Z00] at d
 | .snd::_,.unit,_,_,_,_,_,_,_,_,_,d,_=>by simp [Z00] at d
 | .snd::_,.slice _,_,_,_,_,_,_,_,_,_,d,_=>by simp [Z00] at d
 | .idx _::_,.int _,_,_,_,_,_,_,_,_,_,d,_=>by simp [Z00] at d
 | .idx _::_,.bool,_,_,_,_,_,_,_,_,_,d,_=>by simp [Z00] at d
 | .idx _::_,.str,_,_,_,_,_,_,_,_,_,d,_=>by simp [Z00] at d
 | .idx _::_,.unit,_,_,_,_,_,_,_,_,_,d,_=>by simp [Z00] at d
 | .idx _::_,.pair _ _,_,_,_,_,_,_,_,_,_,d,_=>by simp [Z00] at d
def Z0g:Ty->List Step->Nat
 | .pair a b,.fst::p=>Z0g a p
 | .pair a b,.snd::p=>size a+Z0g b p
 | _,_=>0
def Z0c (cs:List Value) (o:Nat) (l:List Value):List Value:=cs.take o++l++cs.drop (o+l.length)
def Z0m (w:World) (b o:Nat) (l:List Value):World:=
 { w with heap:=w.heap.modify b λd=>match d with | .cells c T fr=> .cells (Z0c c.toList o l).toArray T fr | x=>x }
theorem Z1S {cs l:List Value} {o:Nat} (h:o+l.length<=cs.length):(Z0c cs o l).length=cs.length:=by
 unfold Z0c;simp;omega
theorem Z2X {cs l:List Value} (h:l.length=cs.length):Z0c cs 0 l=l:=by
 unfold Z0c;simp [h]
theorem Z4s {cs l:List Value} {o o' n:Nat} (h:o+n<=o'\/o'+l.length<=o) (d:o'+l.length<=cs.length) :
  ((Z0c cs o' l).drop o).take n=(cs.drop o).take n:=by
 apply List.ext_getElem?
 intro i
 unfold Z0c
 simp only [List.getElem?_take,List.getElem?_drop]
 by_cases b:i<n
 ·simp only [b,if_true]
  rcases h with h | h
  ·rw [List.append_assoc,List.getElem?_append_left (by simp;omega),List.getElem?_take_of_lt (by omega)]
  ·rw [List.getElem?_append_right (by simp;omega)]
   simp only [List.length_append,List.length_take,List.getElem?_drop]
   congr 1
   omega
 ·simp [b]
theorem Z4L {cs l:List Value} {o o' n:Nat} (h:o<=o') (d:o'+l.length<=o+n) (j:o+n<=cs.length) :
  ((Z0c cs o' l).drop o).take n=Z0c ((cs.drop o).take n) (o'-o) l:=by
 apply List.ext_getElem?
 intro i
 unfold Z0c
 simp only [List.getElem?_take,List.getElem?_drop]
 by_cases b:i<n
 ·simp only [b,if_true]
  by_cases f:o+i<o'
  ·rw [List.append_assoc,List.getElem?_append_left (by simp;omega),List.getElem?_take_of_lt (by omega)]
   rw [List.append_assoc,List.getElem?_append_left (by simp;omega),List.getElem?_take_of_lt (by omega),List.getElem?_take_of_lt (by omega),List.getElem?_drop]
  ·by_cases g:o+i<o'+l.length
   ·rw [List.append_assoc,List.getElem?_append_right (by simp;omega),List.getElem?_append_left (by simp;omega)]
    rw [List.append_assoc,List.getElem?_append_right (by simp;omega),List.getElem?_append_left (by simp;omega)]
    congr 1
    simp;omega
   ·rw [List.getElem?_append_right (by simp;omega),List.getElem?_append_right (by simp;omega)]
    simp only [List.length_append,List.length_take,List.getElem?_drop,List.length_drop,List.getElem?_take]
    rw [if_pos (by omega)]
    congr 1
    omega
 ·simp only [b,if_false]
  rw [List.getElem?_eq_none]
  simp;omega
theorem Z15 {w:World} {b o:Nat} {l:List Value} {c:Nat} (h:c≠b):(Z0m w b o l).heap[c]? = w.heap[c]? := by
 simp only [Z0m,Array.getElem?_modify]
 rw [if_neg (by omega)]
theorem Z11 {w w':World} {b:Nat} (h:w'.heap[b]? = w.heap[b]?) (o n:Nat):Z04 w' b o n=Z04 w b o n:=by
 unfold Z04;rw [h]
theorem Z3J {w w':World} {b n:Nat} (h:w'.heap[b]? = w.heap[b]?):Row w' b n↔Row w b n:=by
 unfold Row;rw [h]
theorem Z2i {w:World} {b o' o n:Nat} {l cs:List Value} (k:∃ m,o'+l.length<=m/\Row w b m) (h:o+n<=o'\/o'+l.length<=o) (d:Z04 w b o n=some cs) :
  Z04 (Z0m w b o' l) b o n=some cs:=by
 obtain ⟨m,q,c,T,fr,j,r,_⟩:=k
 have f:o'+l.length<=c.toList.length:=by have:c.toList.length=c.size:=Array.length_toList;omega
 have i:(Z0c c.toList o' l).toArray.size=c.size:=by rw [List.size_toArray,Z1S f,Array.length_toList]
 have p:(Z0m w b o' l).heap[b]? = some (.cells (Z0c c.toList o' l).toArray T fr):=by
  simp only [Z0m,Array.getElem?_modify,j,if_true,Option.map_some]
 unfold Z04 at *
 rw [j] at d
 rw [p]
 simp only [] at d ⊢
 by_cases g:o+n<=c.size
 ·rw [if_pos g] at d
  rw [if_pos (by rw [i];exact g),List.toList_toArray,Z4s h f]
  exact d
 ·rw [if_neg g] at d;cases d
theorem Z3E {w:World} {b o' o n:Nat} {l cs:List Value} (h:o<=o') (j:o'+l.length<=o+n) (d:Z04 w b o n=some cs) :
  Z04 (Z0m w b o' l) b o n=some (Z0c cs (o'-o) l):=by
 unfold Z04 at d
 split at d
 ·rename_i c T fr k
  split at d
  ·rename_i i
   cases d
   have f:o'+l.length<=c.toList.length:=by have:c.toList.length=c.size:=Array.length_toList;omega
   have g:(Z0c c.toList o' l).toArray.size=c.size:=by rw [List.size_toArray,Z1S f,Array.length_toList]
   have m:(Z0m w b o' l).heap[b]? = some (.cells (Z0c c.toList o' l).toArray T fr):=by
    simp only [Z0m,Array.getElem?_modify,k,if_true,Option.map_some]
   unfold Z04
   rw [m]
   simp only []
   rw [if_pos (by rw [g];exact i),List.toList_toArray,Z4L h j (by have:c.toList.length=c.size:=Array.length_toList;omega)]
  ·cases d
 ·cases d
theorem Z4N {w:World} {b o' n m:Nat} {l:List Value} (y:o'+l.length<=m) (i:Row w b m) (h:Row w b n):Row (Z0m w b o' l) b n:=by
 obtain ⟨c,T,fr,f,z,ht⟩:=h
 obtain ⟨c2,q,g,d,k,_⟩:=i
 rw [f] at d
 cases d
 have p:(Z0c c.toList o' l).toArray.size=c.size:=by
  rw [List.size_toArray,Z1S (by have:c.toList.length=c.size:=Array.length_toList;omega),Array.length_toList]
 refine ⟨(Z0c c.toList o' l).toArray,T,fr,?_,by omega,λj r=>ht j (by omega)⟩
 simp only [Z0m,Array.getElem?_modify,f,if_true,Option.map_some]
theorem Z2C {w w':World} {b:Nat} (h:w'.heap[b]? = w.heap[b]?):Z2B w' b↔Z2B w b:=by
 unfold Z2B;rw [h]
theorem Z3A {w:World} {b o' m:Nat} {l:List Value} (q:o'+l.length<=m) (j:Row w b m) (h:Z2B w b):Z2B (Z0m w b o' l) b:=by
 obtain ⟨c,T,fr,g,k⟩:=h
 obtain ⟨c2,p,i,d,n,_⟩:=j
 rw [g] at d
 cases d
 have f:(Z0c c.toList o' l).toArray.size=c.size:=by
  rw [List.size_toArray,Z1S (by have:c.toList.length=c.size:=Array.length_toList;omega),Array.length_toList]
 refine ⟨(Z0c c.toList o' l).toArray,T,fr,?_,by rw [f];exact k⟩
 simp only [Z0m,Array.getElem?_modify,g,if_true,Option.map_some]
def Z7i (w:World) (base:Option (Nat×Nat)) (l:List Value):World:=match base with | some (b,o)=>Z0m w b o l | none=>w
theorem Z3H (l:List (List Nat)) (i:Nat) (h:i<l.length):(l.flatten).Perm ((l.set i []).flatten++l[i]):=by
 induction l generalizing i with
 | nil=>simp at h
 | cons a l b=>
  cases i with
  | zero=>simp only [List.set_cons_zero,List.flatten_cons,List.getElem_cons_zero,List.nil_append];exact List.perm_append_comm
  | succ i=>
   simp only [List.set_cons_succ,List.flatten_cons,List.getElem_cons_succ,List.append_assoc]
   exact List.Perm.append_left _ (b i (by simpa using h))
theorem Z5t (l:List (List Nat)) (i:Nat) (m:List Nat) (h:i<l.length):((l.set i m).flatten).Perm ((l.set i []).flatten++m):=by
 have:=Z3H (l.set i m) i (by simpa using h)
 simpa using this
end
end Go.PI
namespace Go.PI
section
variable {w:World} {F:Nat->Nat} {St Al:Nat->Prop}
theorem Rp.presO {w':World} {F':Nat->Nat} {St' Al':Nat->Prop} :
  {τ:Ty}->{tg:List Tag}->{cs:List Value}->{x:El τ}->{fp:List Nat}->Rp w F St Al τ tg cs x fp->(∀ t∈tg,t= .O) ->
  (∀ b∈fp,Z06 w F w' F' b/\F' b=F b/\(Al b->Al' b))->Rp w' F' St' Al' τ tg cs x fp
 | .int _,_,_,_,_,h,_,_=>h
 | .bool,_,_,_,_,h,_,_=>h
 | .str,_,_,_,_,h,_,_=>h
 | .unit,_,_,_,_,h,_,_=>h
 | .pair a b,_,_,_,_,h,g,f=>by
  obtain ⟨I,J,c1,c2,y,z,rfl,rfl,rfl,A,B⟩:=h
  exact ⟨I,J,c1,c2,y,z,rfl,rfl,rfl,Rp.presO A (λt ht=>g t (List.mem_append_left _ ht)) (λb d=>f b (List.mem_append_left _ d)),
   Rp.presO B (λt ht=>g t (List.mem_append_right _ ht)) (λb d=>f b (List.mem_append_right _ d))⟩
 | .slice e,_,_,x,_,h,g,f=>by
  obtain ⟨t,a,cap,rfl,rfl,n,h⟩:=h
  obtain rfl:=g t (by simp)
  refine ⟨.O,a,cap,rfl,rfl,n,?_⟩
  rcases h with h | ⟨p,b,o,fps,C,j,rfl,G,H,q,E⟩ | ⟨p,_⟩
  ·exact .inl h
  ·have d:=f b (by simp)
   refine .inr (.inl ⟨p,b,o,fps,C,d.2.2 j,rfl,G,d.1.rowE H,by rw [d.2.1];exact q,λk r=> ?_⟩)
   obtain ⟨i,D,m⟩:=E k r
   refine ⟨i,d.1.2.1 _ _ _ ?_ D,Rp.presO m (by simp [Tag.inner]) (λc l=>f c ?_)⟩
   ·rw [q]
    have:(k+1) * size e<=List.length (α:=El e) x * size e:=Nat.mul_le_mul_right _ r
    rw [Nat.add_mul,Nat.one_mul] at this
    omega
   ·refine List.mem_cons_of_mem _ (List.mem_flatten.2 ⟨_,?_,l⟩)
    rw [List.getD_eq_getElem?_getD,List.getElem?_eq_getElem (by omega)]
    exact List.getElem_mem _
  ·cases p
theorem Z1t:{path:List Step}->{τ:Ty}->{x:El τ}->{tg:List Tag}->{u:TVal}->Z07 path=true->Z0b τ x tg path=some u->Z0g τ path+size u.τ<=size τ
 | [],τ,x,tg,u,_,h=>by cases τ<;>(simp only [Z0b,Option.some.injEq] at h;subst h;simp [Z0g])
 | .fst::p,.pair a b,x,tg,u,d,h=>by
  have:=Z1t (path:=p) d h
  simp only [Z0g,size];omega
 | .snd::p,.pair a b,x,tg,u,d,h=>by
  have:=Z1t (path:=p) d h
  simp only [Z0g,size];omega
 | .idx _::_,_,_,_,_,d,_=>by simp [Z07] at d
 | .fst::_,.int _,_,_,_,_,h=>by simp [Z0b] at h
 | .fst::_,.bool,_,_,_,_,h=>by simp [Z0b] at h
 | .fst::_,.str,_,_,_,_,h=>by simp [Z0b] at h
 | .fst::_,.unit,_,_,_,_,h=>by simp [Z0b] at h
 | .fst::_,.slice _,_,_,_,_,h=>by simp [Z0b] at h
 | .snd::_,.int _,_,_,_,_,h=>by simp [Z0b] at h
 | .snd::_,.bool,_,_,_,_,h=>by simp [Z0b] at h
 | .snd::_,.str,_,_,_,_,h=>by simp [Z0b] at h
 | .snd::_,.unit,_,_,_,_,h=>by simp [Z0b] at h
 | .snd::_,.slice _,_,_,_,_,h=>by simp [Z0b] at h
theorem Z3f {a b l:List Value} {o:Nat} (h:o+l.length<=a.length):Z0c (a++b) o l=Z0c a o l++b:=by
 unfold Z0c
 rw [List.take_append_of_le_length (by omega),List.drop_append_of_le_length (by omega)]
 simp
theorem Z2L {a b l:List Value} {o:Nat}:Z0c (a++b) (a.length+o) l=a++Z0c b o l:=by
 unfold Z0c
 rw [List.take_length_add_append,show a.length+o+l.length=a.length+(o+l.length) by omega,List.drop_length_add_append]
 simp
def Put (w:World) (F:Nat->Nat) (Al:Nat->Prop) (w':World) (F':Nat->Nat) (Al':Nat->Prop) (base:Option (Nat×Nat)) (l:List Value) (b:Nat):Prop:=
 F' b=F b/\(Al b->Al' b)/\w'.heap[b]? = (Z7i w base l).heap[b]?
theorem Put.keep {w':World} {F':Nat->Nat} {Al':Nat->Prop} {base:Option (Nat×Nat)} {l:List Value} {b:Nat} (h:Put w F Al w' F' Al' base l b) (d:∀ y,base=some y->y.1≠b) :
  Z06 w F w' F' b/\F' b=F b/\(Al b->Al' b):=by
 refine ⟨Z06.of_block ?_ (by rw [h.1];exact Nat.le_refl _),h.1,h.2.1⟩
 rw [h.2.2]
 cases base with
 | none=>rfl
 | some y=>exact Z15 (by have:=d y rfl;omega)
structure Lens (w:World) (F:Nat->Nat) (St Al:Nat->Prop) (τ:Ty) (tg:List Tag) (cs:List Value) (x:El τ) (fp:List Nat) (base:Option (Nat×Nat)) (path:List Step)
  (cs':List Value) (base':Option (Nat×Nat)) (u:TVal) (fpo fpi:List Nat):Prop where
 perm:fp.Perm (fpo++fpi)
 part:Rp w F St Al u.τ u.tg cs' u.x fpi
 tags:∀ t∈u.tg,t= .O
 deep:Z07 path=false->∃ b' o' m,base'=some (b',o')/\b'∈fpo/\o'+size u.τ<=m/\Row w b' m
 flat:Z07 path=true->base'=base.map λy=>(y.1,y.2+Z0g τ path)
 put:∀ (w':World) (F':Nat->Nat) (St' Al':Nat->Prop) (v:TVal) (csv:List Value) (fpv:List Nat) (x':El τ) (tg':List Tag),
  Z0K τ x tg path v=some (x',tg')->v.τ=u.τ->(∀ t∈v.tg,t= .O)->Rp w' F' St' Al' v.τ v.tg csv v.x fpv ->
  (∀ b∈fpo,Put w F Al w' F' Al' base' csv b) ->
  ∃ fpn,fpn.Perm (fpo++fpv)/\(∀ t∈tg',t= .O)/\Rp w' F' St' Al' τ tg' (if Z07 path then Z0c cs (Z0g τ path) csv else cs) x' fpn
theorem Rp.lens:{path:List Step}->{τ:Ty}->{tg:List Tag}->{cs I:List Value}->{x:El τ}->{fp:List Nat}->{base f:Option (Nat×Nat)}->{u:TVal} ->
  Rp w F St Al τ tg cs x fp->(∀ t∈tg,t= .O)->fp.Nodup->(∀ y,base=some y->y.1 ∉ fp)->Z00 w τ cs base path=some (I,f)->Z0b τ x tg path=some u ->
  ∃ E R,Lens w F St Al τ tg cs x fp base path I f u E R
 | [],τ,tg,cs,I,x,fp,base,f,u,h,V,hn,hb,d,U=>by
  simp only [Z00,Option.some.injEq,Prod.mk.injEq] at d
  obtain ⟨rfl,rfl⟩:=d
  have hu:u=⟨τ,false,x,tg⟩:=by cases τ<;>(simp only [Z0b,Option.some.injEq] at U;exact U.symm)
  subst hu
  refine ⟨[],fp,⟨by simp,h,V,by simp [Z07],λ_=> ?_,?_⟩⟩
  ·cases base<;>cases τ<;>simp [Z0g]
  ·intro w' F' St' Al' v C T x' tg' K hv Q B _
   obtain ⟨vτ,vag,vx,vtg⟩:=v
   simp only at hv Q B
   subst hv
   have hs':vx=x'/\vtg=tg':=by
    cases vτ<;>(simp only [Z0K,dif_pos,Option.some.injEq,Prod.mk.injEq] at K;first | exact K | exact ⟨rfl,K.2⟩)
   obtain ⟨rfl,rfl⟩:=hs'
   refine ⟨T,by simp,Q,?_⟩
   have h0:Z0g vτ []=0:=by cases vτ<;>rfl
   simp only [Z07,if_true,h0]
   rw [Z2X (by rw [B.len.1,h.len.1])]
   exact B
 | .fst::p,.pair a b,tg,cs,I,x,fp,base,f,u,h,V,hn,hb,d,U=>by
  obtain ⟨t1,t2,c1,c2,f1,f2,rfl,rfl,rfl,h1,h2⟩:=h
  have i1:=h1.len
  have hl':Z00 w a c1 base p=some (I,f):=by
   simp only [Z00] at d;rw [<-i1.1] at d;simpa using d
  have J:Z0b a x.1 t1 p=some u:=by
   simp only [Z0b] at U;rw [<-i1.2] at U;simpa using U
  have hn1:f1.Nodup:=(List.nodup_append.1 hn).1
  obtain ⟨E,R,L⟩:=Rp.lens (path:=p) h1 (λt ht=>V t (List.mem_append_left _ ht)) hn1 (λy j=>λX=>hb y j (List.mem_append_left _ X)) hl' J
  have P:∀ c∈E,c∈f1:=λc n=>L.perm.symm.subset (List.mem_append_left _ n)
  refine ⟨E++f2,R,⟨?_,L.part,L.tags,?_,?_,?_⟩⟩
  ·refine (List.Perm.append_right f2 L.perm).trans ?_
   rw [List.append_assoc,List.append_assoc]
   exact List.Perm.append_left _ List.perm_append_comm
  ·intro hf
   obtain ⟨b',o',m,H,G,h5⟩:=L.deep hf
   exact ⟨b',o',m,H,List.mem_append_left _ G,h5⟩
  ·intro hf;exact L.flat hf
  ·intro w' F' St' Al' v C T x' tg' K hv Q B hp
   simp only [Z0K] at K
   rw [<-i1.2] at K
   simp only [List.take_left',List.drop_left',Option.map_eq_some_iff] at K
   obtain ⟨⟨xa,ta⟩,Z,M⟩:=K
   simp only [Prod.mk.injEq] at M
   obtain ⟨rfl,rfl⟩:=M
   obtain ⟨D,Y,ab,r⟩:=L.put w' F' St' Al' v C T xa ta Z hv Q B (λc n=>hp c (List.mem_append_left _ n))
   have h2':Rp w' F' St' Al' b t2 c2 x.2 f2:=h2.presO (λt ht=>V t (List.mem_append_right _ ht)) λc n=>by
    refine (hp c (List.mem_append_right _ n)).keep ?_
    intro y j he
    cases g:Z07 p with
    | true=>
     have:=L.flat g
     rw [this] at j
     cases q:base with
     | none=>rw [q] at j;cases j
     | some z=>rw [q] at j;cases j;have he':z.1=c:=he;exact hb z q (by rw [he'];exact List.mem_append_right _ n)
    | false=>
     obtain ⟨b',o',m,H,G,h5⟩:=L.deep g
     rw [H] at j
     cases j
     exact (List.nodup_append.1 hn).2.2 _ (P _ G) _ n he
   refine ⟨D++f2,?_,?_,?_⟩
   ·refine (List.Perm.append_right f2 Y).trans ?_
    rw [List.append_assoc,List.append_assoc]
    exact List.Perm.append_left _ List.perm_append_comm
   ·intro t ht
    rcases List.mem_append.1 ht with ht | ht
    ·exact ab t ht
    ·exact V t (List.mem_append_right _ ht)
   ·have hfe:Z07 (.fst::p)=Z07 p:=rfl
    rw [hfe]
    cases g:Z07 p with
    | true=>
     simp only [g,if_true] at r ⊢
     have hsz:=Z1t g J
     rw [show Z0g (a.pair b) (.fst::p)=Z0g a p from rfl,Z3f (by rw [B.len.1,hv,i1.1];omega)]
     exact Rp.pair_mk r h2'
    | false=>
     simp only [g,Bool.false_eq_true,if_false] at r ⊢
     exact Rp.pair_mk r h2'
 | .snd::p,.pair a b,tg,cs,I,x,fp,base,f,u,h,V,hn,hb,d,U=>by
  obtain ⟨t1,t2,c1,c2,f1,f2,rfl,rfl,rfl,h1,h2⟩:=h
  have i1:=h1.len
  have hl':Z00 w b c2 (base.map λx=>(x.1,x.2+size a)) p=some (I,f):=by
   simp only [Z00] at d;rw [<-i1.1] at d ⊢;simpa using d
  have J:Z0b b x.2 t2 p=some u:=by
   simp only [Z0b] at U;rw [<-i1.2] at U;simpa using U
  have hn1:f2.Nodup:=(List.nodup_append.1 hn).2.1
  obtain ⟨E,R,L⟩:=Rp.lens (path:=p) h2 (λt ht=>V t (List.mem_append_right _ ht)) hn1 (λy j=>λX=>by
   cases q:base with
   | none=>rw [q] at j;cases j
   | some z=>rw [q] at j;cases j;exact hb z q (List.mem_append_right _ X)) hl' J
  have P:∀ c∈E,c∈f2:=λc n=>L.perm.symm.subset (List.mem_append_left _ n)
  refine ⟨f1++E,R,⟨?_,L.part,L.tags,?_,?_,?_⟩⟩
  ·rw [List.append_assoc]
   exact List.Perm.append_left f1 L.perm
  ·intro hf
   obtain ⟨b',o',m,H,G,h5⟩:=L.deep hf
   exact ⟨b',o',m,H,List.mem_append_right _ G,h5⟩
  ·intro hf
   rw [L.flat hf]
   cases base with
   | none=>rfl
   | some z=>simp [Z0g,Nat.add_assoc]
  ·intro w' F' St' Al' v C T x' tg' K hv Q B hp
   simp only [Z0K] at K
   rw [<-i1.2] at K
   simp only [List.take_left',List.drop_left',Option.map_eq_some_iff] at K
   obtain ⟨⟨xa,ta⟩,Z,M⟩:=K
   simp only [Prod.mk.injEq] at M
   obtain ⟨rfl,rfl⟩:=M
   obtain ⟨D,Y,ab,r⟩:=L.put w' F' St' Al' v C T xa ta Z hv Q B (λc n=>hp c (List.mem_append_right _ n))
   have h1':Rp w' F' St' Al' a t1 c1 x.1 f1:=h1.presO (λt ht=>V t (List.mem_append_left _ ht)) λc n=>by
    refine (hp c (List.mem_append_left _ n)).keep ?_
    intro y j he
    cases g:Z07 p with
    | true=>
     have:=L.flat g
     rw [this] at j
     cases q:base with
     | none=>rw [q] at j;cases j
     | some z=>rw [q] at j;cases j;have he':z.1=c:=he;exact hb z q (by rw [he'];exact List.mem_append_left _ n)
    | false=>
     obtain ⟨b',o',m,H,G,h5⟩:=L.deep g
     rw [H] at j
     cases j
     exact (List.nodup_append.1 hn).2.2 _ n _ (P _ G) he.symm
   refine ⟨f1++D,?_,?_,?_⟩
   ·rw [List.append_assoc]
    exact List.Perm.append_left f1 Y
   ·intro t ht
    rcases List.mem_append.1 ht with ht | ht
    ·exact V t (List.mem_append_left _ ht)
    ·exact ab t ht
   ·have hfe:Z07 (.snd::p)=Z07 p:=rfl
    rw [hfe]
    cases g:Z07 p with
    | true=>
     simp only [g,if_true] at r ⊢
     rw [show Z0g (a.pair b) (.snd::p)=size a+Z0g b p from rfl,<-i1.1,Z2L]
     exact Rp.pair_mk h1' r
    | false=>
     simp only [g,Bool.false_eq_true,if_false] at r ⊢
     exact Rp.pair_mk h1' r
 | .idx i::p,.slice e,tg,cs,I,x,fp,base,f,u,h,V,hn,hb,d,U=>by
  obtain ⟨t,a,cap,rfl,rfl,hlc,h⟩:=h
  obtain rfl:=V t (by simp)
  simp only [Z00] at d
  split at d
  ·rename_i b o len cap' heq
   simp only [List.cons.injEq,Value.slice.injEq,and_true] at heq
   obtain ⟨rfl,rfl,rfl⟩:=heq
   split at d
   ·rename_i hi
    split at d
    ·rename_i cse hce
     rcases h with ⟨_,hnn,_⟩ | ⟨ho,b',o',fps,hbb,hal,rfl,hlf,hr,hF,he⟩ | ⟨ho,_⟩
     ·cases hnn
     ·simp only [Option.some.injEq,Addr.mk.injEq,and_true] at hbb
      obtain ⟨rfl,rfl⟩:=hbb
      obtain ⟨c2,hc2,hk⟩:=he i hi
      rw [hce] at hc2
      cases hc2
      have J:Z0b e (List.get (α:=El e) x ⟨i,hi⟩) (List.replicate (Z05 e) .O) p=some u:=by
       simp only [Z0b,List.headD_cons,Tag.inner] at U
       rw [Z4c _ _ _ hi] at U
       exact U
      have hfi:fps.getD i []=fps[i]'(by omega):=by rw [List.getD_eq_getElem?_getD,List.getElem?_eq_getElem (by omega)];rfl
      have hnf:fps.flatten.Nodup:=(List.nodup_cons.1 hn).2
      have hbn:b ∉ fps.flatten:=(List.nodup_cons.1 hn).1
      have hpf:=Z3H fps i (by omega)
      have aa:∀ c∈fps[i]'(by omega),c∈fps.flatten:=λc n=>List.mem_flatten.2 ⟨_,List.getElem_mem _,n⟩
      have hni:(fps[i]'(by omega)).Nodup:=((List.nodup_append.1 ((hpf.nodup_iff).1 hnf)).2.1)
      have hbnd:o+i * size e+size e<=o+cap * size e:=by
       have:(i+1) * size e<=cap * size e:=Nat.mul_le_mul_right _ (by omega)
       rw [Nat.add_mul,Nat.one_mul] at this
       omega
      rw [hfi] at hk
      obtain ⟨E,R,L⟩:=Rp.lens (path:=p) hk (by simp [Tag.inner]) hni (λy j=>by
       cases j;exact λX=>hbn (aa _ X)) d J
      have P:∀ c∈E,c∈fps[i]'(by omega):=λc n=>L.perm.symm.subset (List.mem_append_left _ n)
      refine ⟨b::((fps.set i []).flatten++E),R,⟨?_,L.part,L.tags,?_,by simp [Z07],?_⟩⟩
      ·rw [List.cons_append]
       refine List.Perm.cons _ (hpf.trans ?_)
       rw [List.append_assoc]
       exact List.Perm.append_left _ L.perm
      ·intro _
       cases g:Z07 p with
       | true=>
        have H:=L.flat g
        simp only [Option.map_some] at H
        have hsz:=Z1t g J
        exact ⟨b,_,o+cap * size e,H,by simp,by omega,hr.1⟩
       | false=>
        obtain ⟨b',o',m,H,G,h5⟩:=L.deep g
        exact ⟨b',o',m,H,by simp [G],h5⟩
      ·intro w' F' St' Al' v C T x' tg' K hv Q B hp
       simp only [Z0K,List.headD_cons,Tag.inner,Option.map_eq_some_iff] at K
       rw [Z4c _ _ _ hi] at K
       obtain ⟨⟨xa,ta⟩,Z,M⟩:=K
       simp only [Prod.mk.injEq] at M
       obtain ⟨rfl,rfl⟩:=M
       obtain ⟨D,Y,ab,r⟩:=L.put w' F' St' Al' v C T xa ta Z hv Q B (λc n=>hp c (by simp [n]))
       have hta:ta=List.replicate (Z05 e) .O:=by
        refine List.eq_replicate_iff.2 ⟨r.len.2,λt ht=>ab t ht⟩
       subst hta
       have hpb:=hp b (by simp)
       have W:∀ y,f=some y->(Z07 p=true/\y=(b,o+i * size e+Z0g e p))\/(Z07 p=false/\y.1∈fps[i]'(by omega)):=by
        intro y j
        cases g:Z07 p with
        | true=>
         have H:=L.flat g
         rw [H] at j
         simp only [Option.map_some,Option.some.injEq] at j
         exact .inl ⟨rfl,j.symm⟩
        | false=>
         obtain ⟨b',o',m,H,G,h5⟩:=L.deep g
         rw [H] at j
         cases j
         exact .inr ⟨rfl,P _ G⟩
       have hcl:C.length=size u.τ:=by rw [B.len.1,hv]
       have hrow:(Z3g e w' b (o+cap * size e))/\∀ k (hk:k<List.length (α:=El e) x) c,Z04 w b (o+k * size e) (size e)=some c ->
         Z04 w' b (o+k * size e) (size e)=some (if k=i then (if Z07 p then Z0c c (Z0g e p) C else c) else c):=by
        cases g:Z07 p with
        | true=>
         have hsz:=Z1t g J
         have H:f=some (b,o+i * size e+Z0g e p):=by rw [L.flat g];rfl
         have G:w'.heap[b]? = (Z0m w b (o+i * size e+Z0g e p) C).heap[b]? := by rw [hpb.2.2,H];rfl
         refine ⟨⟨(Z3J G).2 (Z4N (m:=o+cap * size e) (by omega) hr.1 hr.1),hr.2.imp id λX=>(Z2C G).2 (Z3A (m:=o+cap * size e) (by omega) hr.1 X)⟩,λk hk c n=> ?_⟩
         rw [Z11 G]
         by_cases A:k=i
         ·subst A
          simp only [if_true]
          have:=Z3E (w:=w) (o':=o+k * size e+Z0g e p) (l:=C) (by omega) (by omega) n
          rw [show o+k * size e+Z0g e p-(o+k * size e)=Z0g e p by omega] at this
          exact this
         ·simp only [A,if_false]
          refine Z2i ⟨o+cap * size e,by omega,hr.1⟩ ?_ n
          rcases Nat.lt_or_gt_of_ne A with hlt | hgt
          ·left
           have:(k+1) * size e<=i * size e:=Nat.mul_le_mul_right _ hlt
           rw [Nat.add_mul,Nat.one_mul] at this
           omega
          ·right
           have:(i+1) * size e<=k * size e:=Nat.mul_le_mul_right _ hgt
           rw [Nat.add_mul,Nat.one_mul] at this
           omega
        | false=>
         have G:w'.heap[b]? = w.heap[b]? := by
          rw [hpb.2.2]
          cases q:f with
          | none=>rfl
          | some y=>
           rcases W y q with ⟨hf,_⟩ | ⟨_,X⟩
           ·rw [g] at hf;cases hf
           ·exact Z15 (λhe=>hbn (aa _ (by rw [he];exact X)))
         refine ⟨⟨(Z3J G).2 hr.1,hr.2.imp id (Z2C G).2⟩,λk hk c n=> ?_⟩
         rw [Z11 G,n]
         by_cases A:k=i<;>simp [A]
       refine ⟨b::(fps.set i D).flatten,?_,by simp,?_⟩
       ·rw [List.cons_append]
        refine List.Perm.cons _ ((Z5t fps i D (by omega)).trans ?_)
        rw [List.append_assoc]
        exact List.Perm.append_left _ Y
       ·simp only [Z07,Bool.false_eq_true,if_false]
        refine ⟨.O,some ⟨b,o,none⟩,cap,rfl,by simp,by simpa using hlc,.inr (.inl ⟨rfl,b,o,fps.set i D,rfl,hpb.2.1 hal,rfl,by simpa using hlf,hrow.1,?_,λk hk=> ?_⟩)⟩
        ·rw [hpb.1,hF];simp
        ·have hk0:k<List.length (α:=El e) x:=by simpa using hk
         obtain ⟨c,n,hkr⟩:=he k hk0
         refine ⟨_,hrow.2 k hk0 c n,?_⟩
         by_cases A:k=i
         ·subst A
          rw [hce] at n
          cases n
          simp only [if_true]
          have e1:List.get (α:=El e) (List.set x k xa) ⟨k,hk⟩=xa:=by simp
          have e2:(fps.set k D).getD k []=D:=by
           rw [List.getD_eq_getElem?_getD,List.getElem?_set_self (by omega)];rfl
          rw [e1,e2]
          exact r
         ·simp only [A,if_false]
          have e1:List.get (α:=El e) (List.set x i xa) ⟨k,hk⟩=List.get (α:=El e) x ⟨k,hk0⟩:=by
           simp only [List.get_eq_getElem];exact List.getElem_set_ne (Ne.symm A) _
          have e2:(fps.set i D).getD k []=fps.getD k []:=by
           simp only [List.getD_eq_getElem?_getD];rw [List.getElem?_set_ne (Ne.symm A)]
          rw [e1,e2]
          refine hkr.presO (by simp [Tag.inner]) λc hcm=> ?_
          have hck:c∈(fps.set i []).flatten:=by
           refine List.mem_flatten.2 ⟨fps[k]'(by omega),?_,?_⟩
           ·have:(fps.set i [])[k]'(by simp;omega)=fps[k]'(by omega):=List.getElem_set_ne (Ne.symm A) _
            rw [<-this];exact List.getElem_mem _
           ·rw [List.getD_eq_getElem?_getD,List.getElem?_eq_getElem (by omega)] at hcm;exact hcm
          refine (hp c (by simp [hck])).keep ?_
          intro y j hyc
          rcases W y j with ⟨_,hyb⟩ | ⟨_,X⟩
          ·rw [hyb] at hyc
           simp only at hyc
           refine hbn (List.mem_flatten.2 ⟨fps[k]'(by omega),List.getElem_mem _,?_⟩)
           rw [List.getD_eq_getElem?_getD,List.getElem?_eq_getElem (by omega)] at hcm
           rw [hyc];exact hcm
          ·have:=(List.nodup_append.1 ((hpf.nodup_iff).1 hnf)).2.2 c hck y.1 X
           exact this hyc.symm
     ·cases ho
    ·cases d
   ·cases d
  ·cases d
 | .fst::_,.int _,_,_,_,_,_,_,_,_,_,_,_,_,d,_=>by simp [Z00] at d
 | .fst::_,.bool,_,_,_,_,_,_,_,_,_,_,_,_,d,_=>by simp [Z00] at d
 | .fst::_,.str,_,_,_,_,_,_,_,_,_,_,_,_,d,_=>by simp [Z00] at d
 | .fst::_,.unit,_,_,_,_,_,_,_,_,_,_,_,_,d,_=>by simp [Z00] at d
 | .fst::_,.slice _,_,_,_,_,_,_,_,_,_,_,_,_,d,_=>by simp [Z00] at d
 | .snd::_,.int _,_,_,_,_,_,_,_,_,_,_,_,_,d,_=>by simp [Z00] at d
 | .snd::_,.bool,_,_,_,_,_,_,_,_,_,_,_,_,d,_=>by simp [Z00] at d
 | .snd::_,.str,_,_,_,_,_,_,_,_,_,_,_,_,d,_=>by simp [Z00] at d
 | .snd::_,.unit,_,_,_,_,_,_,_,_,_,_,_,_,d,_=>by simp [Z00] at d
 | .snd::_,.slice _,_,_,_,_,_,_,_,_,_,_,_,_,d,_=>by simp [Z00] at d
 | .idx _::_,.int _,_,_,_,_,_,_,_,_,_,_,_,_,d,_=>by simp [Z00] at d
 | .idx _::_,.bool,_,_,_,_,_,_,_,_,_,_,_,_,d,_=>by simp [Z00] at d
 | .idx _::_,.str,_,_,_,_,_,_,_,_,_,_,_,_,d,_=>by simp [Z00] at d
 | .idx _::_,.unit,_,_,_,_,_,_,_,_,_,_,_,_,d,_=>by simp [Z00] at d
 | .idx _::_,.pair _ _,_,_,_,_,_,_,_,_,_,_,_,_,d,_=>by simp [Z00] at d
end
end Go.PI
namespace Go.PI
theorem Z3c {w w':World} {F F':Nat->Nat} {St Al:Nat->Prop} (n:∀ b,St b->Z06 w F w' F' b) :
  {path:List Step}->{τ:Ty}->{tg:List Tag}->{cs:List Value}->{x:El τ}->{fp:List Nat}->{base:Option (Nat×Nat)}->{r:List Value×Option (Nat×Nat)} ->
  Rp w F St Al τ tg cs x fp->(∀ b∈fp,Z06 w F w' F' b)->((∀ t∈tg,t.isN=false)\/∀ b,b<w.heap.size->Al b->Z06 w F w' F' b) ->
  Z00 w τ cs base path=some r->Z00 w' τ cs base path=some r
 | [],τ,tg,cs,x,fp,base,r,h,l,f,d=>by simp only [Z00] at d ⊢;exact d
 | .fst::p,.pair a b,tg,cs,x,fp,base,r,h,l,f,d=>by
  have B:=h.len
  obtain ⟨t1,t2,c1,c2,R,T,rfl,rfl,rfl,A,K⟩:=h
  have B:=A.len
  simp only [Z00] at d ⊢
  rw [<-B.1] at d ⊢
  rw [List.take_left'] at d ⊢
  all_goals first | rfl | skip
  exact Z3c n (path:=p) A (λb C=>l b (List.mem_append_left _ C)) (f.imp (λh t ht=>h t (List.mem_append_left _ ht)) id) d
 | .snd::p,.pair a b,tg,cs,x,fp,base,r,h,l,f,d=>by
  obtain ⟨t1,t2,c1,c2,R,T,rfl,rfl,rfl,A,K⟩:=h
  have B:=A.len
  simp only [Z00] at d ⊢
  rw [<-B.1] at d ⊢
  rw [List.drop_left'] at d ⊢
  all_goals first | rfl | skip
  exact Z3c n (path:=p) K (λb C=>l b (List.mem_append_right _ C)) (f.imp (λh t ht=>h t (List.mem_append_right _ ht)) id) d
 | .idx i::p,.slice e,tg,cs,x,fp,base,r,h,l,f,d=>by
  obtain ⟨t,a,cap,rfl,rfl,Y,h⟩:=h
  have m:((∀ t'∈List.replicate (Z05 e) t.inner,t'.isN=false)\/∀ b,b<w.heap.size->Al b->Z06 w F w' F' b):=
   f.imp (λh t' I=>by
    obtain ⟨_,rfl⟩:=List.mem_replicate.1 I
    have:=h t (by simp)
    cases t<;>simp_all [Tag.isN,Tag.inner]) id
  simp only [Z00] at d ⊢
  split at d
  ·rename_i b o len J q
   simp only [List.cons.injEq,Value.slice.injEq,and_true] at q
   obtain ⟨rfl,rfl,rfl⟩:=q
   split at d
   ·rename_i y
    split at d
    ·rename_i Q k
     simp only [y,if_true]
     have W:o+i * size e+size e<=o+List.length (α:=El e) x * size e:=by
      have:(i+1) * size e<=List.length (α:=El e) x * size e:=Nat.mul_le_mul_right _ y
      rw [Nat.add_mul,Nat.one_mul] at this
      omega
     rcases h with ⟨_,hn,_⟩ | ⟨L,P,o',fps,g,V,rfl,Z,hr,U,D⟩ | ⟨L,rfl,h⟩
     ·cases hn
     ·simp only [Option.some.injEq,Addr.mk.injEq,and_true] at g
      obtain ⟨rfl,rfl⟩:=g
      obtain ⟨c2,j,E⟩:=D i y
      rw [k] at j
      cases j
      rw [(l b (by simp)).2.1 _ _ _ (by omega) k]
      refine Z3c n (path:=p) E (λc X=>l c ?_) m d
      refine List.mem_cons_of_mem _ (List.mem_flatten.2 ⟨_,?_,X⟩)
      rw [List.getD_eq_getElem?_getD,List.getElem?_eq_getElem (by omega)]
      exact List.getElem_mem _
     ·rcases h with h | ⟨P,o',g,z,U,D⟩
      ·subst h;simp at y
      ·simp only [Option.some.injEq,Addr.mk.injEq,and_true] at g
       obtain ⟨rfl,rfl⟩:=g
       obtain ⟨c2,j,E⟩:=D i y
       have H:Z06 w F w' F' b:=by
        rcases f with f | f
        ·have:=f t (by simp)
         cases t<;>simp_all [Tag.isN,Tag.own,Z5e]
        ·cases t with
         | S=>exact n b z
         | N=>exact f b (Z0Y k) z
         | _=>cases L
       rw [H.2.1 _ _ _ (by omega) k]
       rw [k] at j
       cases j
       exact Z3c n (path:=p) E (by simp) m d
    ·cases d
   ·cases d
  ·cases d
 | .fst::_,.int _,_,_,_,_,_,_,_,_,_,d=>by simp [Z00] at d
 | .fst::_,.bool,_,_,_,_,_,_,_,_,_,d=>by simp [Z00] at d
 | .fst::_,.str,_,_,_,_,_,_,_,_,_,d=>by simp [Z00] at d
 | .fst::_,.unit,_,_,_,_,_,_,_,_,_,d=>by simp [Z00] at d
 | .fst::_,.slice _,_,_,_,_,_,_,_,_,_,d=>by simp [Z00] at d
 | .snd::_,.int _,_,_,_,_,_,_,_,_,_,d=>by simp [Z00] at d
 | .snd::_,.bool,_,_,_,_,_,_,_,_,_,d=>by simp [Z00] at d
 | .snd::_,.str,_,_,_,_,_,_,_,_,_,d=>by simp [Z00] at d
 | .snd::_,.unit,_,_,_,_,_,_,_,_,_,d=>by simp [Z00] at d
 | .snd::_,.slice _,_,_,_,_,_,_,_,_,_,d=>by simp [Z00] at d
 | .idx _::_,.int _,_,_,_,_,_,_,_,_,_,d=>by simp [Z00] at d
 | .idx _::_,.bool,_,_,_,_,_,_,_,_,_,d=>by simp [Z00] at d
 | .idx _::_,.str,_,_,_,_,_,_,_,_,_,d=>by simp [Z00] at d
 | .idx _::_,.unit,_,_,_,_,_,_,_,_,_,d=>by simp [Z00] at d
 | .idx _::_,.pair _ _,_,_,_,_,_,_,_,_,_,d=>by simp [Z00] at d
inductive Who where
 | s (i:Nat) | c (i:Nat) | a (i:Nat) | x
 deriving DecidableEq
structure Ghost where
 F:Nat->Nat
 St:Nat->Prop
 who:Nat->Option Who
 fs:Nat->List Nat
 fb:Nat->List Nat
 ad:Nat->Nat
def Ghost.Al (G:Ghost) (b:Nat):Prop:=(∀ i,G.who b≠some (.a i))/\(G.who b=none->G.St b)
def Z02:Value->List Value
 | .tuple vs=>vs.toList.flatMap λv=>v.cells.toList
 | v=>v.cells.toList
def one:Value->Bool
 | .agg _=>false
 | .tuple _=>false
 | _=>true
def Z0f:Bool->Value->Prop
 | true,v=>∃ cs,v= .agg cs
 | false,v=>one v=true
theorem Z0f.cells {ag:Bool} {v:Value} (h:Z0f ag v):Z02 v=v.cells.toList:=by
 cases ag
 ·cases v<;>simp_all [Z0f,one,Z02]
 ·obtain ⟨cs,rfl⟩:=h;rfl
def Z1b:Ty->List Bool->List Value->Prop
 | τ,[ag],[v]=>Z0f ag v/\(Z02 v).length=size τ
 | .pair a b,ag::d::ags,v::vs=>Z0f ag v/\(Z02 v).length=size a/\Z1b b (d::ags) vs
 | _,_,_=>False
def Z08 (G:Ghost) (a:Act) (w:World) (p:Place):Option (List Value×Option (Nat×Nat)):=
 match p.box with
 | true=>match w.heap[G.ad p.root]? with
  | some (.cells c _ _)=>some (c.toList,some (G.ad p.root,0))
  | _=>none
 | false=>some (Z02 (a.tmps.getD p.root undef),none)
noncomputable def State.ct (σ:State) (p:Place):Option Ty:=(σ.content p).map (·.τ)
def Z0C (σ:State) (G:Ghost) (a:Act) (w:World) (p:Place) (cs:List Value) (base:Option (Nat×Nat)):Prop:=
 ∃ τ l b,σ.ct p=some τ/\Z08 G a w p=some (l,b)/\Z00 w τ l b p.path=some (cs,base)
def Z0x (σ:State) (G:Ghost) (a:Act) (w:World) (p:Place) (v:Value):Prop:=
 σ.ct p=none\/∃ cs b,Z0C σ G a w p cs (some b)/\v= .pointer (some ⟨b.1,b.2,none⟩)
def Z2D (w:World) (F:Nat->Nat) (St Al:Nat->Prop) (τ:Ty) (x:El τ) (v:Value):Prop:=
 ∃ b o cs,v= .pointer (some ⟨b,o,none⟩)/\Z04 w b o (size τ)=some cs/\St b/\o+size τ<=F b/\Rp w F St Al τ (List.replicate (Z05 τ) .S) cs x []
def SPs (w:World) (F:Nat->Nat) (St Al:Nat->Prop):List Ty->(τ:Ty)->El τ->List Value->Prop
 | [],_,_,us=>us=[]
 | [f],τ,x,us=>f=τ/\∃ u,us=[u]/\Z2D w F St Al τ x u
 | f::g::h,.pair a b,x,us=>f=a/\∃ u d,us=u::d/\Z2D w F St Al a x.1 u/\SPs w F St Al (g::h) b x.2 d
 | _,_,_,_=>False
theorem Z2D.pres {w w':World} {F F':Nat->Nat} {St Al St' Al':Nat->Prop} (d:∀ b,St b->St' b) (f:∀ b,b<w.heap.size->Al b->Al' b) (j:∀ b,St b->Z06 w F w' F' b) {τ:Ty} {x:El τ} {v:Value} (h:Z2D w F St Al τ x v):Z2D w' F' St' Al' τ x v:=by
 obtain ⟨b,o,cs,l,m,g,i,n⟩:=h
 have k:=j b g
 exact ⟨b,o,cs,l,k.2.1 _ _ _ i m,d b g,Nat.le_trans i k.1,n.pres d f j (by simp) (.inl λt ht=>by rw [(List.mem_replicate.1 ht).2];rfl)⟩
theorem SPs.pres {w w':World} {F F':Nat->Nat} {St Al St' Al':Nat->Prop} (f:∀ b,St b->St' b) (d:∀ b,b<w.heap.size->Al b->Al' b) (l:∀ b,St b->Z06 w F w' F' b) :
  (i:List Ty)->(τ:Ty)->(x:El τ)->(us:List Value)->SPs w F St Al i τ x us->SPs w' F' St' Al' i τ x us
 | [],_,_,_,h=>h
 | [_],_,_,_,h=>⟨h.1,let ⟨u,j,k⟩:=h.2;⟨u,j,k.pres f d l⟩⟩
 | _::m::i,.pair a b,x,_,h=>⟨h.1,let ⟨u,g,j,k,n⟩:=h.2;⟨u,g,j,k.pres f d l,SPs.pres f d l (m::i) b x.2 g n⟩⟩
 | _::_::_,.int _,_,_,h=>h.elim
 | _::_::_,.bool,_,_,h=>h.elim
 | _::_::_,.str,_,_,h=>h.elim
 | _::_::_,.unit,_,_,h=>h.elim
 | _::_::_,.slice _,_,_,h=>h.elim
def Z01 (σ:State) (G:Ghost) (a:Act) (w:World):TV->Value->List Nat->Prop
 | .dead,_,fp=>fp=[]
 | .un,v,fp=>v=undef/\fp=[]
 | .nil,v,fp=>v= .slice none 0 0/\fp=[]
 | .val u,v,fp=>Z0f u.ag v/\Rp w G.F G.St G.Al u.τ u.tg (Z02 v) u.x fp
 | .tup u ags,v,fp=>(∃ vs,v= .tuple vs/\Z1b u.τ ags vs.toList)/\Rp w G.F G.St G.Al u.τ u.tg (Z02 v) u.x fp
 | .ref p ag,v,fp=>fp=[]/\(σ.ct p=none\/∃ cs base,Z0C σ G a w p cs base/\Z02 v=cs/\Z0f ag v)
 | .ptr p,v,fp=>fp=[]/\p.box=true/\Z07 p.path=true/\Z0x σ G a w p v
 | .eptr u t,v,fp=>fp=[]/\t.own=false/\∃ b o cs,v= .pointer (some ⟨b,o,none⟩)/\Z04 w b o (size u.τ)=some cs/\Z5e G.St G.Al t b/\o+size u.τ<=G.F b /\
   (t.isN=false->∀ t'∈u.tg,t'.isN=false)/\Rp w G.F G.St G.Al u.τ u.tg cs u.x []
 | .eref p,v,fp=>fp=[]/\Z0x σ G a w p v
 | .sptr r g p,v,fp=>fp=[]/\Z07 p=true/\∃ b o τ,v= .pointer (some ⟨b,o,none⟩)/\Z0d g p=some τ/\(Z02 (a.tmps.getD r undef)).length=size g /\
   Z04 w b o (size τ)=some (((Z02 (a.tmps.getD r undef)).drop (Z0g g p)).take (size τ))/\G.St b/\o+size τ<=G.F b
 | .tref t ags,v,fp=>fp=[]/\∀ τ,σ.ct ⟨false,t,[]⟩=some τ->Z08 G a w ⟨false,t,[]⟩=some (Z02 v,none)/\∃ vs,v= .tuple vs/\Z1b τ ags vs.toList
 | .clos f d,v,fp=>fp=[]/\∃ vs:Array Value,v= .func (.func f) #[] vs/\vs.size=d.length/\∀ i (h:i<d.length),d[i].box=true/\Z07 d[i].path=true/\Z0x σ G a w d[i] (vs.getD i undef)
 | .sclos f j u,v,fp=>fp=[]/\∃ us:Array Value,v= .func (.func f) #[] us/\SPs w G.F G.St G.Al j u.τ u.x us.toList
structure Ext (M:Nat->Prop) (w w':World):Prop where
 os:w'.os=w.os
 tape:w'.tape=w.tape
 output:w'.output=w.output
 size:w.heap.size<=w'.heap.size
 block:∀ b,b<w.heap.size->¬ M b->w'.heap[b]? = w.heap[b]?
theorem Ext.refl (M:Nat->Prop) (w:World):Ext M w w:=⟨rfl,rfl,rfl,Nat.le_refl _,λ_ _ _=>rfl⟩
structure Base extends World where
 ad0:Nat->Nat
 F0:Nat->Nat
 St0:Nat->Prop
 np:Nat
 arg:Nat->Value
structure Org (W0:Base) (M:Nat->Prop) (G:Ghost):Prop where
 F:∀ b,b<W0.heap.size->¬ M b->G.F b=W0.F0 b
 St:∀ b,W0.St0 b->G.St b
 St':∀ b,G.St b->W0.St0 b\/W0.heap.size<=b\/M b
structure Inv (W0:Base) (M:Nat->Prop) (σ:State) (a:Act) (w:World) (G:Ghost) (xs:List Nat):Prop where
 defers:a.defers=[]
 len:a.tmps.size=σ.slots.length
 slot:∀ i,i<σ.slots.length->Z01 σ G a w (σ.slot i) (a.tmps.getD i undef) (G.fs i)
 box:∀ i v,σ.boxAt i=some v->(∃ c T,w.heap[G.ad i]? = some (.cells c T (0,0))/\Rp w G.F G.St G.Al v.τ v.tg c.toList v.x (G.fb i))/\G.who (G.ad i)=some (.a i)
 whoS:∀ i b,b∈G.fs i->G.who b=some (.s i)
 whoC:∀ i b,b∈G.fb i->G.who b=some (.c i)
 whoX:∀ b,b∈xs->G.who b=some .x
 nodS:∀ i,(G.fs i).Nodup
 nodC:∀ i,(G.fb i).Nodup
 nodX:xs.Nodup
 st:∀ b,G.St b->G.who b=none/\b<w.heap.size
 lt:∀ b z,G.who b=some z->b<w.heap.size/\(W0.heap.size<=b\/M b)
 ext:Ext M W0.toWorld w
 adx:∀ i,σ.slots.length<=i->G.ad i=W0.ad0 i
 org:Org W0 M G
 pin:∀ i,i<W0.np->a.tmps.getD i undef=W0.arg i
theorem Ghost.St_Al {W0:Base} {M:Nat->Prop} {σ:State} {a:Act} {w:World} {G:Ghost} {xs:List Nat} (I:Inv W0 M σ a w G xs):∀ b,G.St b->G.Al b:=
 λb d=>⟨λi h=>(by rw [(I.st b d).1] at h;cases h),λ_=>d⟩
noncomputable def TV.noN:TV->Bool
 | .val u=>u.noN
 | .tup u _=>u.noN
 | .eptr _ t=> !t.isN
 | _=>true
def State.noN (σ:State):Prop:=(∀ i,(σ.slot i).noN=true)/\∀ i v,σ.boxAt i=some v->v.noN=true
theorem TVal.noN_iff {v:TVal}:v.noN=true↔∀ t∈v.tg,t.isN=false:=by
 unfold TVal.noN;rw [List.all_eq_true]
 constructor
 ·intro h t ht;have:=h t ht;cases t<;>simp_all [Tag.isN]
 ·intro h t ht;have:=h t ht;cases t<;>simp_all [Tag.isN]
section
variable {W0:Base} {M:Nat->Prop} {σ:State} {a:Act} {w:World} {G:Ghost} {xs:List Nat}
theorem Z0H {p:Place} {c:TVal} (I:Inv W0 M σ a w G xs) (h:σ.content p=some c) :
  ∃ l b fp,Z08 G a w p=some (l,b)/\Rp w G.F G.St G.Al c.τ c.tg l c.x fp /\
   ((p.box=true/\σ.boxAt p.root=some c/\fp=G.fb p.root/\b=some (G.ad p.root,0)) \/
    (p.box=false/\p.root<σ.slots.length/\fp=G.fs p.root/\b=none/\(σ.slot p.root= .val c\/∃ ags,σ.slot p.root= .tup c ags))):=by
 obtain ⟨box,d,path⟩:=p
 cases box with
 | true=>
  simp only [State.content] at h
  obtain ⟨⟨cs,T,n,q⟩,_⟩:=I.box d c h
  exact ⟨cs.toList,some (G.ad d,0),_,by simp [Z08,n],q,.inl ⟨rfl,h,rfl,rfl⟩⟩
 | false=>
  simp only [State.content] at h
  have f:d<σ.slots.length:=by
   rcases Nat.lt_or_ge d σ.slots.length with k | k
   ·exact k
   ·have:∀ (l:List TV) (i:Nat),l.length<=i->Z0v TV.dead l i= .dead:=by
     intro l
     induction l with
     | nil=>intro i _;rfl
     | cons t l r=>intro i m;cases i with
      | zero=>simp at m
      | succ i=>exact r i (by simpa using m)
    simp [State.slot,this _ _ k] at h
  have j:=I.slot d f
  cases g:σ.slot d with
  | val v=>
   rw [g] at h j
   cases h
   exact ⟨_,none,G.fs d,rfl,j.2,.inr ⟨rfl,f,rfl,rfl,.inl rfl⟩⟩
  | tup v ags=>
   rw [g] at h j
   cases h
   exact ⟨_,none,G.fs d,rfl,j.2,.inr ⟨rfl,f,rfl,rfl,.inr ⟨ags,rfl⟩⟩⟩
  | _=>rw [g] at h;cases h
structure Same (σ:State) (w:World) (G:Ghost) (w':World) (G':Ghost):Prop where
 fs:G'.fs=G.fs
 fb:G'.fb=G.fb
 ad:G'.ad=G.ad
 who:∀ b z,G.who b=some z->z≠ .x->G'.who b=some z
 Al:∀ b,b<w.heap.size->G.Al b->G'.Al b
 St:∀ b,G.St b->G'.St b
 S:∀ b,G.St b->Z06 w G.F w' G'.F b
 own:∀ b z,G.who b=some z->(∀ i,z≠ .a i)->z≠ .x->Z06 w G.F w' G'.F b/\G'.F b=G.F b
 box:∀ i v,σ.boxAt i=some v->w'.heap[G.ad i]? = w.heap[G.ad i]?
 N:σ.noN\/∀ b,b<w.heap.size->G.Al b->Z06 w G.F w' G'.F b
theorem Z0C.world {w':World} {G':Ghost} (I:Inv W0 M σ a w G xs) (S:Same σ w G w' G') {p:Place} {cs:List Value} {base:Option (Nat×Nat)} (h:Z0C σ G a w p cs base) :
  Z0C σ G' a w' p cs base:=by
 obtain ⟨τ,l,b,i,k,A⟩:=h
 obtain ⟨c,z,rfl⟩:=Option.map_eq_some_iff.1 i
 obtain ⟨l',B,fp,j,n,q⟩:=Z0H I z
 rw [k] at j
 cases j
 refine ⟨c.τ,l,b,i,?_,?_⟩
 ·obtain ⟨box,y,path⟩:=p
  rcases q with ⟨g,d,_⟩ | ⟨g,_⟩
  ·simp only at g d;subst g
   simp only [Z08] at k ⊢
   rw [S.ad,S.box _ _ d]
   exact k
  ·simp only at g;subst g
   exact k
 ·refine Z3c S.S n (λx r=> ?_) ?_ A
  ·rcases q with ⟨_,_,rfl,_⟩ | ⟨_,_,rfl,_⟩
   ·exact (S.own x _ (I.whoC _ x r) (by simp) (by simp)).1
   ·exact (S.own x _ (I.whoS _ x r) (by simp) (by simp)).1
  ·refine S.N.imp (λm=> ?_) id
   rcases q with ⟨_,d,_⟩ | ⟨_,_,_,_,f | ⟨ags,f⟩⟩
   ·exact TVal.noN_iff.1 (m.2 _ _ d)
   ·have:=m.1 p.root;rw [f] at this;exact TVal.noN_iff.1 this
   ·have:=m.1 p.root;rw [f] at this;exact TVal.noN_iff.1 this
theorem Z0x.world {w':World} {G':Ghost} (I:Inv W0 M σ a w G xs) (S:Same σ w G w' G') {p:Place} {v:Value} (h:Z0x σ G a w p v):Z0x σ G' a w' p v:=
 h.imp id λ⟨cs,b,d,f⟩=>⟨cs,b,d.world I S,f⟩
theorem Rp.world {w':World} {G':Ghost} (S:Same σ w G w' G') {τ:Ty} {tg:List Tag} {cs:List Value} {x:El τ} {fp:List Nat} (h:Rp w G.F G.St G.Al τ tg cs x fp)
  (l:∀ b∈fp,∃ z,G.who b=some z/\(∀ i,z≠ .a i)/\z≠ .x) (j:σ.noN->∀ t∈tg,t.isN=false):Rp w' G'.F G'.St G'.Al τ tg cs x fp:=
 h.pres S.St S.Al S.S (λb k=>let ⟨z,d,f,g⟩:=l b k;S.own b z d f g) (S.N.imp j id)
theorem Z01.world {w':World} {G':Ghost} (I:Inv W0 M σ a w G xs) (S:Same σ w G w' G') {tv:TV} {v:Value} {fp:List Nat} (h:Z01 σ G a w tv v fp)
  (D:∀ b∈fp,∃ z,G.who b=some z/\(∀ i,z≠ .a i)/\z≠ .x) (B:σ.noN->tv.noN=true):Z01 σ G' a w' tv v fp:=by
 cases tv with
 | dead=>exact h
 | un=>exact h
 | nil=>exact h
 | val u=>exact ⟨h.1,h.2.world S D λk=>TVal.noN_iff.1 (B k)⟩
 | tup u ags=>exact ⟨h.1,h.2.world S D λk=>TVal.noN_iff.1 (B k)⟩
 | ref p ag=>exact ⟨h.1,h.2.imp id λ⟨cs,b,g,d⟩=>⟨cs,b,g.world I S,d⟩⟩
 | ptr p=>exact ⟨h.1,h.2.1,h.2.2.1,h.2.2.2.world I S⟩
 | eref p=>exact ⟨h.1,h.2.world I S⟩
 | tref t ags=>exact h
 | sptr r H p=>
  obtain ⟨g,d,b,o,τ,l,j,m,y,n,A⟩:=h
  have q:=S.S b n
  exact ⟨g,d,b,o,τ,l,j,m,q.2.1 _ _ _ A y,S.St b n,Nat.le_trans A q.1⟩
 | clos f E=>
  obtain ⟨g,vs,d,l,j⟩:=h
  exact ⟨g,vs,d,l,λi C=>⟨(j i C).1,(j i C).2.1,(j i C).2.2.world I S⟩⟩
 | sclos f J u=>
  obtain ⟨g,us,d,l⟩:=h
  exact ⟨g,us,d,SPs.pres S.St S.Al S.S _ _ _ _ l⟩
 | eptr u t=>
  obtain ⟨g,d,b,o,cs,l,j,m,y,n,A⟩:=h
  have q:Z06 w G.F w' G'.F b:=by
   rcases S.N with k | k
   ·have:=B k
    cases t<;>simp_all [TV.noN,Tag.isN,Tag.own,Z5e]
    exact S.S b m
   ·cases t with
    | S=>exact S.S b m
    | N=>exact k b (Z0Y j) m
    | _=>cases d
  refine ⟨g,d,b,o,cs,l,q.2.1 _ _ _ y j,?_,Nat.le_trans y q.1,n,A.world S (by simp) λk=>n ?_⟩
  ·cases t with
   | S=>exact S.St b m
   | N=>exact S.Al b (Z0Y j) m
   | _=>cases d
  ·have:=B k
   cases t<;>simp_all [TV.noN,Tag.isN]
theorem Inv.world {w':World} {G':Ghost} (I:Inv W0 M σ a w G xs) (S:Same σ w G w' G') (j:∀ b,G'.St b->G'.who b=none/\b<w'.heap.size)
  (g:∀ b z,G'.who b=some z->b<w'.heap.size/\(W0.heap.size<=b\/M b)) (l:Ext M W0.toWorld w') {f:List Nat} (q:∀ b∈f,G'.who b=some .x) (k:f.Nodup) (m:Org W0 M G')
  : Inv W0 M σ a w' G' f where
 defers:=I.defers
 len:=I.len
 slot i hi:=by
  rw [S.fs]
  refine (I.slot i hi).world I S (λb d=>⟨_,I.whoS i b d,by simp,by simp⟩) λh=>h.1 i
 box i v hv:=by
  obtain ⟨⟨c,T,d,n⟩,p⟩:=I.box i v hv
  rw [S.ad,S.fb,S.box i v hv]
  refine ⟨⟨c,T,d,n.world S (λb d=>⟨_,I.whoC i b d,by simp,by simp⟩) λh=>TVal.noN_iff.1 (h.2 i v hv)⟩,?_⟩
  exact S.who _ _ p (by simp)
 whoS i b d:=by rw [S.fs] at d;exact S.who b _ (I.whoS i b d) (by simp)
 whoC i b d:=by rw [S.fb] at d;exact S.who b _ (I.whoC i b d) (by simp)
 whoX:=q
 nodS i:=by rw [S.fs];exact I.nodS i
 nodC i:=by rw [S.fb];exact I.nodC i
 nodX:=k
 st:=j
 lt:=g
 ext:=l
 adx i hi:=by rw [S.ad];exact I.adx i hi
 org:=m
 pin:=I.pin
end
end Go.PI
namespace Go.PI
theorem Z2c {α:Type} {d:α}:∀ (l:List α) (i:Nat),l.length<=i->Z0v d l i=d
 | [],_,_=>rfl
 | a::l,0,h=>by simp at h
 | a::l,i+1,h=>Z2c l i (by simpa using h)
theorem Z0F {α:Type}:∀ (l:List α) (i:Nat) (v:α),(Z0I l i v).length=l.length
 | [],_,_=>rfl
 | _::_,0,_=>rfl
 | _::l,i+1,v=>by simp [Z1f,Z0F l i v]
theorem Z0T {α:Type} {d:α}:∀ (l:List α) (i j:Nat) (v:α),Z0v d (Z0I l i v) j=if i=j/\i<l.length then v else Z0v d l j
 | [],i,j,v=>by simp [Z2u,Z27,Z1f,Z0y,Z0t,Z0q]
 | a::l,0,0,v=>by simp [Z2u,Z27,Z1f,Z0y,Z0t,Z0q]
 | a::l,0,j+1,v=>by simp [Z2u,Z27,Z1f,Z0y,Z0t,Z0q]
 | a::l,i+1,0,v=>by simp [Z2u,Z27,Z1f,Z0y,Z0t,Z0q]
 | a::l,i+1,j+1,v=>by simp [Z1f,Z0q,Z0T l i j v]
theorem Z2r {α:Type} {d:α} (f:α->α) (b:f d=d):∀ (l:List α) (i:Nat),Z0v d (Z50 f l) i=f (Z0v d l i)
 | [],_=>b.symm
 | a::l,0=>rfl
 | a::l,i+1=>Z2r f b l i
theorem Z6o {α:Type}:∀ (l:List α) (i:Nat) (v:α),l.length<=i->Z0I l i v=l
 | [],_,_,_=>rfl
 | _::_,0,_,h=>by simp at h
 | a::l,i+1,v,h=>by simp [Z1f,Z6o l i v (by simpa using h)]
section
variable {W0:Base} {M:Nat->Prop} {σ:State} {a:Act} {w:World} {G:Ghost} {xs:List Nat}
def Z7X (σ σ':State):Prop:=∀ p,σ'.ct p=σ.ct p\/σ'.ct p=none
theorem Z0x.less {σ':State} (k:Z7X σ σ') {p:Place} {v:Value} (h:Z0x σ G a w p v):Z0x σ' G a w p v:=by
 rcases k p with d | d
 ·rcases h with h | ⟨cs,b,⟨τ,l,f,g,i⟩,j⟩
  ·exact .inl (d.trans h)
  ·exact .inr ⟨cs,b,⟨τ,l,f,d.trans g,i⟩,j⟩
 ·exact .inl d
theorem Z01.less {σ':State} (g:Z7X σ σ') {tv:TV} {v:Value} {fp:List Nat} (h:Z01 σ G a w tv v fp):Z01 σ' G a w tv v fp:=by
 cases tv with
 | dead=>exact h
 | un=>exact h
 | nil=>exact h
 | val u=>exact h
 | tup u ags=>exact h
 | eptr u t=>exact h
 | sclos f C u=>exact h
 | sptr r B p=>exact h
 | ptr p=>exact ⟨h.1,h.2.1,h.2.2.1,h.2.2.2.less g⟩
 | eref p=>exact ⟨h.1,h.2.less g⟩
 | tref t ags=>
  refine ⟨h.1,λτ y=> ?_⟩
  rcases g ⟨false,t,[]⟩ with d | d
  ·exact h.2 τ (d.symm.trans y)
  ·rw [d] at y;cases y
 | clos f A=>
  obtain ⟨j,vs,k,m,n⟩:=h
  exact ⟨j,vs,k,m,λi q=>⟨(n i q).1,(n i q).2.1,(n i q).2.2.less g⟩⟩
 | ref p ag=>
  refine ⟨h.1,?_⟩
  rcases g p with d | d
  ·rcases h.2 with h | ⟨cs,b,⟨τ,l,z,j,k⟩,m⟩
   ·exact .inl (d.trans h)
   ·exact .inr ⟨cs,b,⟨τ,l,z,d.trans j,k⟩,m⟩
  ·exact .inl d
theorem Inv.drop (I:Inv W0 M σ a w G xs) {σ':State} (d:σ'.slots.length=σ.slots.length) (n:∀ i,σ'.slot i=σ.slot i\/σ'.slot i= .dead)
  (m:∀ i,σ'.boxAt i=σ.boxAt i\/σ'.boxAt i=none):∃ fs,Inv W0 M σ' a w { G with fs:=fs } xs/\∀ i,σ'.slot i=σ.slot i->fs i=G.fs i:=by
 classical
 have q:Z7X σ σ':=by
  intro p
  obtain ⟨box,f,path⟩:=p
  cases box with
  | true=>
   simp only [State.ct,State.content]
   rcases m f with h | h<;>simp [h]
  | false=>
   simp only [State.ct,State.content]
   rcases n f with h | h<;>simp [h]
 refine ⟨λi=>if σ'.slot i=σ.slot i then G.fs i else [],⟨I.defers,by rw [d];exact I.len,λi g=> ?_,λi v l=> ?_,λi b j=> ?_,I.whoC,I.whoX,λi=> ?_,I.nodC,I.nodX,I.st,I.lt,I.ext,λi g=>I.adx i (by rw [<-d];exact g),⟨I.org.F,I.org.St,I.org.St'⟩,I.pin⟩,λi g=>by simp [g]⟩
 ·simp only []
  by_cases k:σ'.slot i=σ.slot i
  ·simp only [k,if_true]
   exact (I.slot i (by rw [<-d];exact g)).less q
  ·simp only [k,if_false]
   rw [(n i).resolve_left k]
   rfl
 ·rcases m i with h | h
  ·exact I.box i v (h ▸ l)
  ·rw [h] at l;cases l
 ·simp only [] at j
  split at j
  ·exact I.whoS i b j
  ·simp at j
 ·simp only []
  split
  ·exact I.nodS i
  ·simp
theorem Z0i (σ:State) (box:Bool) (b i:Nat):(σ.loosen box b).slot i=TV.loosen box b (σ.slot i):=Z2r _ rfl _ _
theorem Z5g (σ:State) (b i:Nat):(σ.unpoint b).slot i=TV.unpoint b (σ.slot i):=Z2r _ rfl _ _
theorem Z1v (σ:State) (i:Nat):σ.kill.slot i=TV.kill (σ.slot i):=Z2r _ rfl _ _
theorem Z2S (σ:State) (i:Nat):σ.kill.boxAt i=Z2R (σ.boxAt i):=Z2r _ rfl _ _
theorem TV.loosen_or (box:Bool) (b:Nat) (tv:TV):TV.loosen box b tv=tv\/TV.loosen box b tv= .dead:=by
 cases tv<;>first | exact .inl rfl | (simp only [TV.loosen];split<;>simp)
theorem TV.unpoint_or (b:Nat) (tv:TV):TV.unpoint b tv=tv\/TV.unpoint b tv= .dead:=by
 cases tv<;>first | exact .inl rfl | (simp only [TV.unpoint];split<;>simp)
theorem TV.kill_or (tv:TV):TV.kill tv=tv\/TV.kill tv= .dead:=by
 cases tv<;>first | exact .inl rfl | (simp only [TV.kill];split<;>simp)
theorem Inv.loosen (I:Inv W0 M σ a w G xs) (box:Bool) (b:Nat):∃ fs,Inv W0 M (σ.loosen box b) a w { G with fs:=fs } xs/\∀ i,(σ.loosen box b).slot i=σ.slot i->fs i=G.fs i:=
 I.drop (by simp [State.loosen,Z0a]) (λi=>by rw [Z0i];exact TV.loosen_or _ _ _) (λi=> .inl rfl)
theorem Inv.unpoint (I:Inv W0 M σ a w G xs) (b:Nat):∃ fs,Inv W0 M (σ.unpoint b) a w { G with fs:=fs } xs/\∀ i,(σ.unpoint b).slot i=σ.slot i->fs i=G.fs i:=
 I.drop (by simp [State.unpoint,Z0a]) (λi=>by rw [Z5g];exact TV.unpoint_or _ _) (λi=> .inl rfl)
theorem Inv.kill (I:Inv W0 M σ a w G xs):∃ fs,Inv W0 M σ.kill a w { G with fs:=fs } xs/\∀ i,σ.kill.slot i=σ.slot i->fs i=G.fs i:=
 I.drop (by simp [State.kill,Z0a]) (λi=>by rw [Z1v];exact TV.kill_or _) (λi=>by rw [Z2S];cases σ.boxAt i with | none=>exact .inl rfl | some v=>simp only [Z2R];split<;>simp)
theorem Z2s (σ:State):σ.kill.noN:=by
 constructor
 ·intro i
  rw [Z1v]
  cases σ.slot i with
  | val v=>simp only [TV.kill];split<;>simp_all [TV.noN]
  | tup v ags=>simp only [TV.kill];split<;>simp_all [TV.noN]
  | eptr v t=>simp only [TV.kill];split<;>simp_all [TV.noN]
  | _=>rfl
 ·intro i v b
  rw [Z2S] at b
  cases d:σ.boxAt i with
  | none=>rw [d] at b;cases b
  | some u=>
   rw [d] at b
   simp only [Z2R] at b
   split at b
   ·cases b;assumption
   ·cases b
theorem Z01.ghost {G':Ghost} (m:G'.F=G.F) (n:G'.St=G.St) (z:∀ i,G'.ad i=G.ad i) (q:G'.Al=G.Al) {tv:TV} {v:Value} {fp:List Nat} (h:Z01 σ G a w tv v fp):Z01 σ G' a w tv v fp:=by
 have C:∀ p,Z08 G' a w p=Z08 G a w p:=λp=>by unfold Z08;rw [z]
 have B:∀ p v,Z0x σ G a w p v->Z0x σ G' a w p v:=λp v h=>h.imp id λ⟨cs,b,⟨τ,l,y,g,j,k⟩,d⟩=>⟨cs,b,⟨τ,l,y,g,by rw [C];exact j,k⟩,d⟩
 cases tv with
 | dead=>exact h
 | un=>exact h
 | nil=>exact h
 | val u=>simp only [Z01] at h ⊢;rw [m,n,q];exact h
 | tup u ags=>simp only [Z01] at h ⊢;rw [m,n,q];exact h
 | eptr u t=>simp only [Z01] at h ⊢;rw [m,n,q];exact h
 | sclos f I u=>simp only [Z01] at h ⊢;rw [m,n,q];exact h
 | sptr r H p=>simp only [Z01] at h ⊢;rw [m,n];exact h
 | ptr p=>exact ⟨h.1,h.2.1,h.2.2.1,B _ _ h.2.2.2⟩
 | eref p=>exact ⟨h.1,B _ _ h.2⟩
 | tref t ags=>exact ⟨h.1,λτ D=>⟨by rw [C];exact (h.2 τ D).1,(h.2 τ D).2⟩⟩
 | clos f E=>
  obtain ⟨g,vs,j,k,d⟩:=h
  exact ⟨g,vs,j,k,λi A=>⟨(d i A).1,(d i A).2.1,B _ _ (d i A).2.2⟩⟩
 | ref p ag=>exact ⟨h.1,h.2.imp id λ⟨cs,b,⟨τ,l,y,g,j,k⟩,d⟩=>⟨cs,b,⟨τ,l,y,g,by rw [C];exact j,k⟩,d⟩⟩
end
structure Sim (G G':Ghost):Prop where
 F:G'.F=G.F
 St:G'.St=G.St
 ad:G'.ad=G.ad
 Al:G'.Al=G.Al
 bx:∀ b i,G'.who b=some (.a i)↔G.who b=some (.a i)
theorem Sim.refl (G:Ghost):Sim G G:=⟨rfl,rfl,rfl,rfl,λ_ _=>Iff.rfl⟩
theorem Sim.trans {d f g:Ghost} (h:Sim d f) (k:Sim f g):Sim d g:=
 ⟨k.F.trans h.F,k.St.trans h.St,k.ad.trans h.ad,k.Al.trans h.Al,λb i=>(k.bx b i).trans (h.bx b i)⟩
theorem Sim.fs (G:Ghost) (fs:Nat->List Nat):Sim G { G with fs:=fs }:=⟨rfl,rfl,rfl,rfl,λ_ _=>Iff.rfl⟩
end Go.PI
namespace Go.PI
def TV.places:TV->List Place
 | .ref p _=>[p]
 | .ptr p=>[p]
 | .eref p=>[p]
 | .tref t _=>[⟨false,t,[]⟩]
 | .clos _ b=>b
 | _=>[]
section
variable {W0:Base} {M:Nat->Prop} {σ:State} {a:Act} {w:World} {G:Ghost} {xs:List Nat}
theorem Z01.move {σ':State} {A:Act} {G':Ghost} {tv:TV} {v:Value} {fp:List Nat}
  (I:∀ p∈tv.places,σ'.ct p=none\/(σ'.ct p=σ.ct p/\Z08 G' A w p=Z08 G a w p))
  (q:G'.F=G.F) (y:G'.St=G.St) (B:G'.Al=G.Al) (h:Z01 σ G a w tv v fp) (z:∀ r τ p,tv= .sptr r τ p->A.tmps.getD r undef=a.tmps.getD r undef:=by intros;rfl):Z01 σ' G' A w tv v fp:=by
 have k:∀ p∈tv.places,∀ v,Z0x σ G a w p v->Z0x σ' G' A w p v:=by
  intro p K v h
  rcases I p K with m | ⟨d,g⟩
  ·exact .inl m
  ·rcases h with h | ⟨cs,b,⟨τ,l,C,n,j,D⟩,E⟩
   ·exact .inl (d.trans h)
   ·exact .inr ⟨cs,b,⟨τ,l,C,d.trans n,g.trans j,D⟩,E⟩
 cases tv with
 | dead=>exact h
 | un=>exact h
 | nil=>exact h
 | val u=>simp only [Z01] at h ⊢;rw [q,y,B];exact h
 | tup u ags=>simp only [Z01] at h ⊢;rw [q,y,B];exact h
 | eptr u t=>simp only [Z01] at h ⊢;rw [q,y,B];exact h
 | sclos f Q u=>simp only [Z01] at h ⊢;rw [q,y,B];exact h
 | sptr r L p=>simp only [Z01] at h ⊢;rw [q,y,z r L p rfl];exact h
 | ptr p=>exact ⟨h.1,h.2.1,h.2.2.1,k p (by simp [TV.places]) _ h.2.2.2⟩
 | eref p=>exact ⟨h.1,k p (by simp [TV.places]) _ h.2⟩
 | tref t ags=>
  refine ⟨h.1,λτ J=> ?_⟩
  rcases I ⟨false,t,[]⟩ (by simp [TV.places]) with m | ⟨d,g⟩
  ·rw [m] at J;cases J
  ·rw [g];exact h.2 τ (d.symm.trans J)
 | clos f P=>
  obtain ⟨d,vs,g,n,j⟩:=h
  exact ⟨d,vs,g,n,λi H=>⟨(j i H).1,(j i H).2.1,k _ (by simp [TV.places]) _ (j i H).2.2⟩⟩
 | ref p ag=>
  refine ⟨h.1,?_⟩
  rcases I p (by simp [TV.places]) with m | ⟨d,g⟩
  ·exact .inl m
  ·rcases h.2 with h | ⟨cs,b,⟨τ,l,C,n,j,D⟩,E⟩
   ·exact .inl (d.trans h)
   ·exact .inr ⟨cs,b,⟨τ,l,C,d.trans n,g.trans j,D⟩,E⟩
theorem Inv.sub (I:Inv W0 M σ a w G xs) {ys:List Nat} (h:∀ b∈ys,b∈xs) (f:ys.Nodup):Inv W0 M σ a w G ys:=
 { I with whoX:=λb d=>I.whoX b (h b d),nodX:=f }
theorem Z1i (σ:State) (r:Nat) (path:List Step):σ.ct ⟨false,r,path⟩=match σ.slot r with | .val v=>some v.τ | .tup v _=>some v.τ | _=>none:=by
 unfold State.ct State.content
 simp only []
 cases σ.slot r<;>rfl
theorem Z1m (σ:State) (r:Nat) (path:List Step):σ.ct ⟨true,r,path⟩=(σ.boxAt r).map (·.τ):=rfl
theorem Z8B (σ:State) (b:Bool) (r:Nat) (p:Place):(σ.loosen b r).ct p=σ.ct p:=by
 obtain ⟨d,f,path⟩:=p
 cases d with
 | true=>rfl
 | false=>
  rw [Z1i,Z1i,Z0i]
  cases σ.slot f with
  | ref q ag=>rcases TV.loosen_or b r (.ref q ag) with h | h<;>rw [h]
  | eref q=>rcases TV.loosen_or b r (.eref q) with h | h<;>rw [h]
  | tref t ags=>rcases TV.loosen_or b r (.tref t ags) with h | h<;>rw [h]
  | _=>rfl
theorem Inv.put {fp:List Nat} (I:Inv W0 M σ a w G (fp++xs)) {i:Nat} {tv:TV} {v:Value} (h:Z01 σ G a w tv v fp) (X:i<W0.np->v=W0.arg i) (Q:((∀ τ p,tv≠ .sptr i τ p)/\∀ j τ p,σ.slot j≠ .sptr i τ p)\/v=a.tmps.getD i undef) :
  ∃ G',Inv W0 M (σ.put i tv) (a.put (some i) v) w G' xs/\Sim G G':=by
 classical
 obtain ⟨y,Y,hfs⟩:=I.loosen false i
 have C:∀ j,(σ.put i tv).slot j=if i=j/\i<σ.slots.length then tv else (σ.loosen false i).slot j:=by
  intro j
  unfold State.put State.slot
  simp only []
  rw [Z0T]
  simp [State.loosen,Z0a]
 have hbox:∀ j,(σ.put i tv).boxAt j=σ.boxAt j:=λj=>rfl
 by_cases hi:i<σ.slots.length
 case neg=>
  refine ⟨{ G with fs:=y },?_,Sim.fs _ _⟩
  have e1:σ.put i tv=σ.loosen false i:=by
   unfold State.put
   rw [Z6o _ _ _ (by simp [State.loosen,Z0a];omega)]
   rfl
  have e2:a.put (some i) v=a:=by
   have:a.tmps.size<=i:=by rw [I.len];omega
   simp only [Act.put]
   rw [Array.setIfInBounds_eq_of_size_le this]
  rw [e1,e2]
  exact Y.sub (λb l=>List.mem_append_right _ l) (List.nodup_append.1 I.nodX).2.1
 case pos=>
 have J:∀ j,(a.put (some i) v).tmps.getD j undef=if i=j then v else a.tmps.getD j undef:=by
  intro j
  simp only [Act.put]
  by_cases L:i=j
  ·subst L
   simp only [if_true]
   rw [Array.getD_eq_getD_getElem?,Array.getElem?_setIfInBounds_self_of_lt (by rw [I.len];exact hi)];rfl
  ·simp only [L,if_false]
   rw [Array.getD_eq_getD_getElem?,Array.getElem?_setIfInBounds_ne L,<-Array.getD_eq_getD_getElem?]
 let G':Ghost:={ G with who:=λb=>if b∈fp then some (.s i) else G.who b,fs:=λj=>if j=i then fp else y j }
 have d:∀ b k,G'.who b=some (.a k)↔G.who b=some (.a k):=by
  intro b k
  show (if b∈fp then some (Who.s i) else G.who b)=some (.a k)↔_
  by_cases l:b∈fp
  ·have:=I.whoX b (List.mem_append_left _ l)
   rw [this];simp [l]
  ·simp [l]
 have hA:G'.Al=G.Al:=by
  funext b
  apply propext
  show ((∀ k,(if b∈fp then some (Who.s i) else G.who b)≠some (.a k))/\((if b∈fp then some (Who.s i) else G.who b)=none->G.St b))↔_
  by_cases l:b∈fp
  ·simp only [l,if_true]
   have:=I.whoX b (List.mem_append_left _ l)
   constructor
   ·intro _;exact ⟨λk=>(by rw [this];simp),λh=>(by rw [this] at h;cases h)⟩
   ·intro _;exact ⟨λk=>(by simp),λh=>(by cases h)⟩
  ·simp only [l,if_false];rfl
 have D:∀ p:Place,p.box=true->(σ.put i tv).ct p=σ.ct p/\Z08 G' (a.put (some i) v) w p=Z08 G a w p:=by
  rintro ⟨Z,r,path⟩ d
  simp only at d
  subst d
  exact ⟨rfl,rfl⟩
 have P:∀ p:Place,p.box=false->p.root≠i->(σ.put i tv).ct p=(σ.loosen false i).ct p/\Z08 G' (a.put (some i) v) w p=Z08 { G with fs:=y } a w p:=by
  rintro ⟨Z,r,path⟩ d A
  simp only at d A
  subst d
  refine ⟨?_,?_⟩
  ·rw [Z1i,Z1i,C]
   simp [Ne.symm A]
  ·simp only [Z08]
   rw [J]
   simp [Ne.symm A]
 refine ⟨G',⟨I.defers,?_,λj L=> ?_,λj u hu=> ?_,λj b l=> ?_,λj b l=> ?_,λb l=> ?_,λj=> ?_,I.nodC,(List.nodup_append.1 I.nodX).2.1,λb l=> ?_,λb z l=> ?_,I.ext,λj L=>I.adx j (by simpa [State.put,Z0F,State.loosen,Z0a] using L),⟨I.org.F,I.org.St,I.org.St'⟩,λj L=> ?_⟩,rfl,rfl,rfl,hA,d⟩
 ·simp only [Act.put,Array.size_setIfInBounds,State.put,Z0F,State.loosen,Z0a,List.length_map];exact I.len
 ·have hj':j<σ.slots.length:=by simpa [State.put,Z0F,State.loosen,Z0a] using L
  rw [C,J]
  by_cases E:i=j
  ·subst E
   simp only [hi,and_self,if_true]
   show Z01 _ G' _ _ _ _ (if i=i then fp else y i)
   simp only [if_true]
   refine Z01.move (G:=G) (a:=a) (σ:=σ) (λp g=> ?_) rfl rfl hA h (λr τ p U=>by
    rw [J]
    by_cases H:i=r
    ·subst H
     rcases Q with n | n
     ·exact absurd U (n.1 τ p)
     ·rw [if_pos rfl];exact n
    ·rw [if_neg H])
   cases d:p.box with
   | true=>exact .inr (D p d)
   | false=>
    by_cases A:p.root=i
    ·left
     obtain ⟨Z,r,path⟩:=p
     simp only at d A
     subst d A
     rw [Z1i,C]
     simp only [hi,and_self,if_true]
     cases tv<;>first | rfl | (simp [TV.places] at g)
    ·have:=P p d A
     obtain ⟨Z,r,path⟩:=p
     simp only at d A
     subst d
     have hle:=Z8B σ false i ⟨false,r,path⟩
     exact .inr ⟨this.1.trans hle,this.2⟩
  ·simp only [E,false_and,if_false]
   have hne:j≠i:=λh=>E h.symm
   have V:=Y.slot j (by simpa [State.loosen,Z0a] using hj')
   show Z01 _ G' _ _ _ _ (if j=i then fp else y j)
   simp only [hne,if_false]
   refine Z01.move (G:={ G with fs:=y }) (λp g=> ?_) rfl rfl hA V (λr τ p U=>by
    rw [J]
    by_cases H:i=r
    ·subst H
     rcases Q with n | n
     ·have B:=Z0i σ false i j
      rw [U] at B
      cases m:σ.slot j with
      | sptr r2 τ2 p2=>
       rw [m] at B
       simp only [TV.loosen,TV.sptr.injEq] at B
       obtain ⟨rfl,rfl,rfl⟩:=B
       exact absurd m (n.2 j τ p)
      | ref q ag=>rw [m] at B;rcases TV.loosen_or false i (.ref q ag) with K | K<;>rw [K] at B<;>cases B
      | eref q=>rw [m] at B;rcases TV.loosen_or false i (.eref q) with K | K<;>rw [K] at B<;>cases B
      | tref t ags=>rw [m] at B;rcases TV.loosen_or false i (.tref t ags) with K | K<;>rw [K] at B<;>cases B
      | _=>rw [m] at B;simp [TV.loosen] at B
     ·rw [if_pos rfl];exact n
    ·rw [if_neg H])
   cases d:p.box with
   | true=>exact .inr ⟨(D p d).1.trans (by obtain ⟨Z,r,path⟩:=p;simp only at d;subst d;rfl),(D p d).2⟩
   | false=>
    have A:p.root≠i:=by
     intro A
     rw [Z0i] at g V
     cases m:σ.slot j with
     | ref q ag=>
      rw [m] at g
      simp only [TV.loosen] at g
      split at g
      ·simp [TV.places] at g
      ·rename_i R
       simp only [TV.places,List.mem_singleton] at g
       subst g
       exact R (by simp [d,A])
     | tref t' ags=>
      rw [m] at g
      simp only [TV.loosen] at g
      split at g
      ·simp [TV.places] at g
      ·rename_i R
       simp only [TV.places,List.mem_singleton] at g
       subst g
       exact R (by simp at A;simp [A])
     | eref q=>
      rw [m] at g
      simp only [TV.loosen] at g
      split at g
      ·simp [TV.places] at g
      ·rename_i R
       simp only [TV.places,List.mem_singleton] at g
       subst g
       exact R (by simp [d,A])
     | ptr q=>
      rw [m] at g V
      simp only [TV.loosen,TV.places,List.mem_singleton] at g
      subst g
      have:=V.2.1
      rw [d] at this
      cases this
     | clos f ps=>
      rw [m] at g V
      simp only [TV.loosen,TV.places] at g
      obtain ⟨_,vs,_,_,K⟩:=V
      obtain ⟨k,hk,rfl⟩:=List.mem_iff_getElem.1 g
      have:=(K k hk).1
      rw [d] at this
      cases this
     | _=>rw [m] at g;simp [TV.loosen,TV.places] at g
    exact .inr (P p d A)
 ·obtain ⟨⟨c,T,R,A⟩,hw⟩:=I.box j u hu
  refine ⟨⟨c,T,R,?_⟩,?_⟩
  ·rw [hA];exact A
  ·show (if G.ad j∈fp then some (Who.s i) else G.who (G.ad j))=_
   split
   ·rename_i n
    have:=I.whoX _ (List.mem_append_left _ n)
    rw [this] at hw
    cases hw
   ·exact hw
 ·show (if b∈fp then some (Who.s i) else G.who b)=_
  change b∈(if j=i then fp else y j) at l
  by_cases W:j=i
  ·subst W
   simp only [if_true] at l
   simp [l]
  ·simp only [W,if_false] at l
   have:=Y.whoS j b l
   split
   ·rename_i n
    have h2:=I.whoX b (List.mem_append_left _ n)
    change G.who b=_ at this
    rw [h2] at this
    cases this
   ·exact this
 ·show (if b∈fp then some (Who.s i) else G.who b)=_
  have:=I.whoC j b l
  split
  ·rename_i n
   have h2:=I.whoX b (List.mem_append_left _ n)
   rw [h2] at this
   cases this
  ·exact this
 ·show (if b∈fp then some (Who.s i) else G.who b)=_
  split
  ·rename_i n
   exact absurd rfl ((List.nodup_append.1 I.nodX).2.2 b n b l)
  ·exact I.whoX b (List.mem_append_right _ l)
 ·show (if j=i then fp else y j).Nodup
  split
  ·exact (List.nodup_append.1 I.nodX).1
  ·exact Y.nodS j
 ·refine ⟨?_,(I.st b l).2⟩
  show (if b∈fp then some (Who.s i) else G.who b)=_
  split
  ·rename_i n
   have:=I.whoX b (List.mem_append_left _ n)
   rw [(I.st b l).1] at this
   cases this
  ·exact (I.st b l).1
 ·change (if b∈fp then some (Who.s i) else G.who b)=some z at l
  split at l
  ·rename_i n
   exact I.lt b _ (I.whoX b (List.mem_append_left _ n))
  ·exact I.lt b z l
 ·rw [J]
  split
  ·rename_i E
   subst E
   exact X L
  ·exact I.pin j L
theorem Z3x (σ:State) (i j:Nat):(σ.unmir i).slot j=TV.unmir i (σ.slot j):=Z2r _ rfl _ _
theorem Z7y (i:Nat) (tv:TV):TV.unmir i tv=tv\/TV.unmir i tv= .dead:=by
 cases tv<;>first | exact .inl rfl | skip
 simp only [TV.unmir]
 split
 ·exact .inr rfl
 ·exact .inl rfl
theorem Z7x (i:Nat) (tv:TV) (τ:Ty) (p:List Step):TV.unmir i tv≠ .sptr i τ p:=by
 cases tv<;>simp only [TV.unmir]<;>first | (intro h;cases h;done) | skip
 rename_i r f d
 split
 ·intro h;cases h
 ·rename_i b
  intro h
  cases h
  simp at b
theorem Z01.unmired {i:Nat} {tv:TV} {v:Value} {fp:List Nat} (h:Z01 σ G a w tv v fp):Z01 (σ.unmir i) G a w tv v fp:=by
 refine Z01.move (λp _=> .inr ⟨?_,rfl⟩) rfl rfl rfl h
 obtain ⟨d,r,path⟩:=p
 cases d with
 | true=>rfl
 | false=>
  rw [Z1i,Z1i,Z3x]
  cases k:σ.slot r with
  | sptr g j f=>rcases Z7y i (.sptr g j f) with b | b<;>rw [b]
  | _=>rfl
theorem Inv.puto {fp:List Nat} (I:Inv W0 M σ a w G (fp++xs)) {d:Option Nat} {tv:TV} {v:Value} (h:Z01 σ G a w tv v fp) (g:∀ i,d=some i->i<W0.np->v=W0.arg i) :
  ∃ G',Inv W0 M (σ.puto d tv) (a.put d v) w G' xs/\Sim G G':=by
 cases d with
 | none=>exact ⟨G,I.sub (λb y=>List.mem_append_right _ y) (List.nodup_append.1 I.nodX).2.1,Sim.refl _⟩
 | some i=>
  obtain ⟨f,n,z⟩:=I.drop (σ':=σ.unmir i) (by simp [State.unmir,Z0a]) (λj=>by rw [Z3x];exact Z7y _ _) (λj=> .inl rfl)
  have r:Z01 (σ.unmir i) { G with fs:=f } a w (TV.unmir i tv) v fp:=by
   have k:Z01 (σ.unmir i) { G with fs:=f } a w tv v fp:=Z01.move (λp _=> .inr ⟨rfl,rfl⟩) rfl rfl rfl h.unmired
   cases tv<;>first | exact k | skip
   simp only [TV.unmir]
   split
   ·exact k.1
   ·exact k
  obtain ⟨m,q,l⟩:=n.put (i:=i) (tv:=TV.unmir i tv) (v:=v) r (g _ rfl) (.inl ⟨λτ p=>Z7x _ _ _ _,λj τ p=>by rw [Z3x];exact Z7x _ _ _ _⟩)
  exact ⟨m,q,(Sim.fs G f).trans l⟩
end
section
variable {w:World} {F:Nat->Nat} {St Al:Nat->Prop}
theorem Rp.flatLens:{path:List Step}->{τ:Ty}->{tg:List Tag}->{cs g:List Value}->{x:El τ}->{fp:List Nat}->{base d:Option (Nat×Nat)}->{u:TVal} ->
  Z07 path=true->Rp w F St Al τ tg cs x fp->Z00 w τ cs base path=some (g,d)->Z0b τ x tg path=some u ->
  ∃ H fi I,fp=H++fi++I/\Rp w F St Al u.τ u.tg (g.take (size u.τ)) u.x fi/\d=base.map (λy=>(y.1,y.2+Z0g τ path))/\g.take (size u.τ)=(cs.drop (Z0g τ path)).take (size u.τ) /\
   ∀ (v:TVal) (j:List Value) (fv:List Nat) (E:El τ) (l:List Tag),Z0K τ x tg path v=some (E,l)->v.τ=u.τ->Rp w F St Al v.τ v.tg j v.x fv ->
    Rp w F St Al τ l (Z0c cs (Z0g τ path) j) E (H++fv++I)
 | [],τ,tg,cs,g,x,fp,base,d,u,A,h,f,n=>by
  simp only [Z00,Option.some.injEq,Prod.mk.injEq] at f
  obtain ⟨rfl,rfl⟩:=f
  have hu:u=⟨τ,false,x,tg⟩:=by cases τ<;>(simp only [Z0b,Option.some.injEq] at n;exact n.symm)
  subst hu
  have X:Z0g τ []=0:=by cases τ<;>rfl
  have K:cs.take (size τ)=cs:=by rw [<-h.len.1];simp
  refine ⟨[],fp,[],by simp,by rw [K];exact h,?_,by rw [X];simp,?_⟩
  ·rw [X];cases base<;>simp
  ·intro v j fv E l k D i
   obtain ⟨vτ,vag,vx,vtg⟩:=v
   simp only at D i
   subst D
   have Z:vx=E/\vtg=l:=by
    cases vτ<;>(simp only [Z0K,dif_pos,Option.some.injEq,Prod.mk.injEq] at k;first | exact k | exact ⟨rfl,k.2⟩)
   obtain ⟨rfl,rfl⟩:=Z
   rw [X,Z2X (by rw [i.len.1,h.len.1])]
   simpa using i
 | .fst::p,.pair a b,tg,cs,g,x,fp,base,d,u,A,h,f,n=>by
  obtain ⟨t1,t2,c1,c2,H,I,rfl,rfl,rfl,J,Y⟩:=h
  have q:=J.len
  have B:Z00 w a c1 base p=some (g,d):=by
   simp only [Z00] at f;rw [<-q.1] at f;simpa using f
  have r:Z0b a x.1 t1 p=some u:=by
   simp only [Z0b] at n;rw [<-q.2] at n;simpa using n
  have K:=Z1t (path:=p) A r
  obtain ⟨U,W,V,L,P,Q,R,T⟩:=Rp.flatLens (path:=p) A J B r
  refine ⟨U,W,V++I,by rw [L];simp,P,Q,?_,?_⟩
  ·rw [R,show Z0g (a.pair b) (.fst::p)=Z0g a p from rfl]
   rw [List.drop_append_of_le_length (by omega),List.take_append_of_le_length (by simp;omega)]
  ·intro v j fv E l k D i
   simp only [Z0K] at k
   rw [<-q.2] at k
   simp only [List.take_left',List.drop_left',Option.map_eq_some_iff] at k
   obtain ⟨⟨xa,ta⟩,C,m⟩:=k
   simp only [Prod.mk.injEq] at m
   obtain ⟨rfl,rfl⟩:=m
   have:=T v j fv xa ta C D i
   rw [show Z0g (a.pair b) (.fst::p)=Z0g a p from rfl,Z3f (by rw [i.len.1,D,q.1];omega)]
   have:=Rp.pair_mk this Y
   simpa using this
 | .snd::p,.pair a b,tg,cs,g,x,fp,base,d,u,A,h,f,n=>by
  obtain ⟨t1,t2,c1,c2,H,I,rfl,rfl,rfl,J,Y⟩:=h
  have q:=J.len
  have B:Z00 w b c2 (base.map λx=>(x.1,x.2+size a)) p=some (g,d):=by
   simp only [Z00] at f;rw [<-q.1] at f ⊢;simpa using f
  have r:Z0b b x.2 t2 p=some u:=by
   simp only [Z0b] at n;rw [<-q.2] at n;simpa using n
  obtain ⟨U,W,V,L,P,Q,R,T⟩:=Rp.flatLens (path:=p) A Y B r
  refine ⟨H++U,W,V,by rw [L];simp,P,?_,?_,?_⟩
  ·rw [Q]
   cases base with
   | none=>rfl
   | some z=>simp [Z0g,Nat.add_assoc]
  ·rw [R,show Z0g (a.pair b) (.snd::p)=size a+Z0g b p from rfl,<-q.1,List.drop_length_add_append]
  ·intro v j fv E l k D i
   simp only [Z0K] at k
   rw [<-q.2] at k
   simp only [List.take_left',List.drop_left',Option.map_eq_some_iff] at k
   obtain ⟨⟨xa,ta⟩,C,m⟩:=k
   simp only [Prod.mk.injEq] at m
   obtain ⟨rfl,rfl⟩:=m
   have:=T v j fv xa ta C D i
   rw [show Z0g (a.pair b) (.snd::p)=size a+Z0g b p from rfl,<-q.1,Z2L]
   have:=Rp.pair_mk J this
   simpa using this
 | .idx _::_,_,_,_,_,_,_,_,_,_,A,_,_,_=>by simp [Z07] at A
 | .fst::_,.int _,_,_,_,_,_,_,_,_,_,_,f,_=>by simp [Z00] at f
 | .fst::_,.bool,_,_,_,_,_,_,_,_,_,_,f,_=>by simp [Z00] at f
 | .fst::_,.str,_,_,_,_,_,_,_,_,_,_,f,_=>by simp [Z00] at f
 | .fst::_,.unit,_,_,_,_,_,_,_,_,_,_,f,_=>by simp [Z00] at f
 | .fst::_,.slice _,_,_,_,_,_,_,_,_,_,_,f,_=>by simp [Z00] at f
 | .snd::_,.int _,_,_,_,_,_,_,_,_,_,_,f,_=>by simp [Z00] at f
 | .snd::_,.bool,_,_,_,_,_,_,_,_,_,_,f,_=>by simp [Z00] at f
 | .snd::_,.str,_,_,_,_,_,_,_,_,_,_,f,_=>by simp [Z00] at f
 | .snd::_,.unit,_,_,_,_,_,_,_,_,_,_,f,_=>by simp [Z00] at f
 | .snd::_,.slice _,_,_,_,_,_,_,_,_,_,_,f,_=>by simp [Z00] at f
end
end Go.PI
namespace Go.PI
section
variable {W0:Base} {M:Nat->Prop} {σ:State} {a:Act} {w:World} {G:Ghost} {xs:List Nat}
def Ghost.fpOf (G:Ghost) (p:Place):List Nat:=match p.box with | true=>G.fb p.root | false=>G.fs p.root
theorem Z0Q (w:World) (τ:Ty) (cs:List Value) (base:Option (Nat×Nat)):Z00 w τ cs base []=some (cs,base):=by cases τ<;>rfl
theorem Z36 {cs:List Value} {o n:Nat} (h:o+n<=cs.length):Z0c cs o ((cs.drop o).take n)=cs:=by
 unfold Z0c
 have:((cs.drop o).take n).length=n:=by simp;omega
 rw [this,List.append_assoc,<-List.drop_drop,List.take_append_drop,List.take_append_drop]
theorem Z0O {r:Nat} {path:List Step} {c c':TVal} (d:σ.content ⟨false,r,path⟩=some c) (j:Nat) :
  (σ.setContent ⟨false,r,path⟩ c').slot j=if r=j/\r<σ.slots.length then (match σ.slot r with | .tup _ ags=> .tup c' ags | _=> .val c') else σ.slot j:=by
 simp only [State.content] at d
 cases b:σ.slot r with
 | val v=>
  have:σ.setContent ⟨false,r,path⟩ c'={ σ with slots:=Z0I σ.slots r (.val c') }:=by simp only [State.setContent,b]
  rw [this]
  show Z0v TV.dead (Z0I σ.slots r (.val c')) j=_
  rw [Z0T];rfl
 | tup v ags=>
  have:σ.setContent ⟨false,r,path⟩ c'={ σ with slots:=Z0I σ.slots r (.tup c' ags) }:=by simp only [State.setContent,b]
  rw [this]
  show Z0v TV.dead (Z0I σ.slots r (.tup c' ags)) j=_
  rw [Z0T];rfl
 | _=>rw [b] at d;cases d
theorem Z2f (p:Place) (c':TVal):(σ.setContent p c').slots.length=σ.slots.length:=by
 obtain ⟨b,r,path⟩:=p
 cases b with
 | true=>rfl
 | false=>simp only [State.setContent];split<;>simp [Z0F]
theorem Inv.recontent (I:Inv W0 M σ a w G xs) {p:Place} {c c':TVal} (i:σ.content p=some c) (hτ:c'.τ=c.τ) (hag:c'.ag=c.ag) {l:List Value} {b:Option (Nat×Nat)} {f' fi:List Nat}
  (Y:Z08 G a w p=some (l,b)) (hR:Rp w G.F G.St G.Al c'.τ c'.tg l c'.x f') (J:(G.fpOf p).Perm (f'++fi)) :
  ∃ G',Inv W0 M (σ.setContent p c') a w G' (fi++xs)/\Sim G G':=by
 classical
 obtain ⟨f,r,path⟩:=p
 have m:∀ x∈fi,x∈G.fpOf ⟨f,r,path⟩:=λx d=>J.symm.subset (List.mem_append_right _ d)
 have R:∀ x∈f',x∈G.fpOf ⟨f,r,path⟩:=λx d=>J.symm.subset (List.mem_append_left _ d)
 have g:∀ x∈G.fpOf ⟨f,r,path⟩,G.who x=some (if f then .c r else .s r):=by
  intro x d
  cases f
  ·exact I.whoS r x d
  ·exact I.whoC r x d
 have E:(f'++fi).Nodup:=by
  refine J.nodup_iff.1 ?_
  cases f
  ·exact I.nodS r
  ·exact I.nodC r
 have H:∀ x∈fi,x ∉ f':=λx d hx'=>(List.nodup_append.1 E).2.2 x hx' x d rfl
 let G':Ghost:=⟨G.F,G.St,(λx=>if x∈fi then some .x else G.who x),(λj=>if f=false/\j=r then f' else G.fs j),(λj=>if f=true/\j=r then f' else G.fb j),G.ad⟩
 have hbx:∀ x k,G'.who x=some (.a k)↔G.who x=some (.a k):=by
  intro x k
  show (if x∈fi then some Who.x else G.who x)=some (.a k)↔_
  by_cases d:x∈fi
  ·have:=g x (m x d)
   rw [this];cases f<;>simp [d]
  ·simp [d]
 have Q:G'.Al=G.Al:=by
  funext x
  apply propext
  show ((∀ k,(if x∈fi then some Who.x else G.who x)≠some (.a k))/\((if x∈fi then some Who.x else G.who x)=none->G.St x))↔_
  by_cases d:x∈fi
  ·simp only [d,if_true]
   have:=g x (m x d)
   constructor
   ·intro _;exact ⟨λk=>(by rw [this];cases f<;>simp),λh=>(by rw [this] at h;cases h)⟩
   ·intro _;exact ⟨λk=>(by simp),λh=>(by cases h)⟩
  ·simp only [d,if_false];rfl
 have hct:∀ q,(σ.setContent ⟨f,r,path⟩ c').ct q=σ.ct q/\Z08 G' a w q=Z08 G a w q:=by
  rintro ⟨bq,rq,pq⟩
  refine ⟨?_,by cases bq<;>rfl⟩
  cases f with
  | true=>
   simp only [State.content] at i
   cases bq with
   | true=>
    rw [Z1m,Z1m]
    simp only [State.setContent,State.boxAt] at *
    rw [Z0T]
    split
    ·rename_i h;obtain ⟨rfl,_⟩:=h
     rw [i];simp [hτ]
    ·rfl
   | false=>rfl
  | false=>
   cases bq with
   | true=>
    simp only [State.setContent]
    split<;>rfl
   | false=>
    rw [Z1i,Z1i,Z0O i]
    by_cases h3:r=rq/\r<σ.slots.length
    ·obtain ⟨rfl,h4⟩:=h3
     simp only [h4,and_self,if_true]
     simp only [State.content] at i
     cases n:σ.slot r with
     | val v=>rw [n] at i;cases i;simp only [hτ]
     | tup v ags=>rw [n] at i;cases i;simp only [hτ]
     | _=>rw [n] at i;cases i
    ·simp only [h3,if_false]
 refine ⟨G',⟨I.defers,?_,λj U=> ?_,λj u P=> ?_,λj x d=> ?_,λj x d=> ?_,λx d=> ?_,λj=> ?_,λj=> ?_,?_,λx d=> ?_,λx z d=> ?_,I.ext,λj U=>I.adx j (by rw [Z2f] at U;exact U),⟨I.org.F,I.org.St,I.org.St'⟩,I.pin⟩,rfl,rfl,rfl,Q,hbx⟩
 ·rw [I.len,Z2f]
 ·have K:j<σ.slots.length:=by rw [Z2f] at U;exact U
  by_cases L:f=false/\j=r
  ·obtain ⟨rfl,rfl⟩:=L
   show Z01 _ G' a w _ _ (if false=false/\j=j then f' else G.fs j)
   simp only [and_self,if_true]
   have Z:=I.slot j K
   have A:=Z0O (c':=c') i j
   simp only [State.content] at i
   simp only [Z08,Option.some.injEq,Prod.mk.injEq] at Y
   obtain ⟨rfl,rfl⟩:=Y
   simp only [K,and_self,if_true] at A
   rw [A]
   cases n:σ.slot j with
   | val v=>
    rw [n] at Z i
    cases i
    simp only []
    refine ⟨by rw [hag];exact Z.1,?_⟩
    rw [Q];exact hR
   | tup v ags=>
    rw [n] at Z i
    cases i
    simp only []
    refine ⟨by rw [hτ];exact Z.1,?_⟩
    rw [Q];exact hR
   | _=>rw [n] at i;cases i
  ·show Z01 _ G' a w _ _ (if f=false/\j=r then f' else G.fs j)
   simp only [L,if_false]
   have A:(σ.setContent ⟨f,r,path⟩ c').slot j=σ.slot j:=by
    cases f with
    | true=>rfl
    | false=>
     have V:r≠j:=λh=>L ⟨rfl,h.symm⟩
     rw [Z0O i];simp [V]
   rw [A]
   exact Z01.move (λq _=> .inr (hct q)) rfl rfl Q (I.slot j K)
 ·have A:∀ j,(σ.setContent ⟨f,r,path⟩ c').boxAt j=if f=true/\r=j/\r<σ.boxes.length then some c' else σ.boxAt j:=by
   intro j
   cases f with
   | true=>simp only [State.setContent,State.boxAt];rw [Z0T];simp
   | false=>simp only [State.setContent];split<;>simp [State.boxAt]
  rw [A] at P
  split at P
  ·rename_i h
   obtain ⟨rfl,rfl,_⟩:=h
   cases P
   simp only [State.content] at i
   obtain ⟨⟨cc,T,D,W⟩,X⟩:=I.box r c i
   simp only [Z08,D,Option.some.injEq,Prod.mk.injEq] at Y
   obtain ⟨rfl,rfl⟩:=Y
   refine ⟨⟨cc,T,D,?_⟩,?_⟩
   ·rw [Q]
    show Rp w G.F G.St G.Al _ _ _ _ (if true=true/\r=r then f' else G.fb r)
    simp only [and_self,if_true];exact hR
   ·show (if G.ad r∈fi then some Who.x else G.who (G.ad r))=_
    split
    ·rename_i B
     have:=g _ (m _ B)
     rw [X] at this;simp at this
    ·exact X
  ·obtain ⟨⟨cc,T,D,W⟩,X⟩:=I.box j u P
   refine ⟨⟨cc,T,D,?_⟩,?_⟩
   ·rw [Q]
    show Rp w G.F G.St G.Al _ _ _ _ (if f=true/\j=r then f' else G.fb j)
    split
    ·rename_i C h2
     obtain ⟨rfl,rfl⟩:=h2
     exfalso
     refine C ⟨rfl,rfl,?_⟩
     rcases Nat.lt_or_ge j σ.boxes.length with h | h
     ·exact h
     ·unfold State.boxAt at P;rw [Z2c _ _ h] at P;cases P
    ·exact W
   ·show (if G.ad j∈fi then some Who.x else G.who (G.ad j))=_
    split
    ·rename_i B
     have:=g _ (m _ B)
     rw [X] at this;cases f<;>simp at this
    ·exact X
 ·change x∈(if f=false/\j=r then f' else G.fs j) at d
  show (if x∈fi then some Who.x else G.who x)=_
  split at d
  ·rename_i h;obtain ⟨rfl,rfl⟩:=h
   rw [if_neg (λh=>H x h d)]
   have:=g x (R x d);simpa using this
  ·rename_i h
   have C:=I.whoS j x d
   rw [if_neg (λB=> ?_)]
   ·exact C
   ·have:=g x (m x B)
    rw [C] at this
    cases f
    ·simp only [Bool.false_eq_true,if_false,Option.some.injEq,Who.s.injEq] at this
     exact h ⟨rfl,this⟩
    ·simp at this
 ·change x∈(if f=true/\j=r then f' else G.fb j) at d
  show (if x∈fi then some Who.x else G.who x)=_
  split at d
  ·rename_i h;obtain ⟨rfl,rfl⟩:=h
   rw [if_neg (λh=>H x h d)]
   have:=g x (R x d);simpa using this
  ·rename_i h
   have C:=I.whoC j x d
   rw [if_neg (λB=> ?_)]
   ·exact C
   ·have:=g x (m x B)
    rw [C] at this
    cases f
    ·simp at this
    ·simp only [if_true,Option.some.injEq,Who.c.injEq] at this
     exact h ⟨rfl,this⟩
 ·show (if x∈fi then some Who.x else G.who x)=_
  split
  ·rfl
  ·rename_i h
   exact I.whoX x ((List.mem_append.1 d).resolve_left h)
 ·show (if f=false/\j=r then f' else G.fs j).Nodup
  split
  ·exact (List.nodup_append.1 E).1
  ·exact I.nodS j
 ·show (if f=true/\j=r then f' else G.fb j).Nodup
  split
  ·exact (List.nodup_append.1 E).1
  ·exact I.nodC j
 ·refine List.nodup_append.2 ⟨(List.nodup_append.1 E).2.1,I.nodX,λx d y hy he=> ?_⟩
  subst he
  have C:=g x (m x d)
  rw [I.whoX x hy] at C
  cases f<;>simp at C
 ·refine ⟨?_,(I.st x d).2⟩
  show (if x∈fi then some Who.x else G.who x)=_
  split
  ·rename_i B
   have:=g x (m x B)
   rw [(I.st x d).1] at this;cases this
  ·exact (I.st x d).1
 ·change (if x∈fi then some Who.x else G.who x)=some z at d
  split at d
  ·rename_i B
   exact I.lt x _ (g x (m x B))
  ·exact I.lt x z d
theorem Z0w (I:Inv W0 M σ a w G xs) (o:Operand) (h:∀ v ags,σ.peek o≠ .tup v ags):Z01 σ G a w (σ.peek o) (a.eval o) []:=by
 cases o with
 | tmp t=>
  by_cases ht:t<σ.slots.length
  ·have g:=I.slot t ht
   simp only [State.peek] at h ⊢
   cases d:σ.slot t with
   | val v=>
    rw [d] at g
    simp only []
    by_cases j:v.anyOwn
    ·simp only [j,if_true]
     refine ⟨rfl,.inr ⟨Z02 (a.tmps.getD t undef),none,⟨v.τ,Z02 (a.tmps.getD t undef),none,?_,rfl,Z0Q _ _ _ _⟩,rfl,g.1⟩⟩
     rw [Z1i,d]
    ·simp only [j,if_false]
     have:G.fs t=[]:=g.2.fp_nil λt ht=>by
      unfold TVal.anyOwn at j
      cases q:t.own with
      | false=>rfl
      | true=>exact absurd (List.any_eq_true.2 ⟨t,ht,q⟩) j
     rw [this] at g
     exact g
   | tup v ags=>rw [d] at h;exact absurd rfl (h v ags)
   | dead=>simp only [Z01]
   | un=>rw [d] at g;exact ⟨g.1,rfl⟩
   | nil=>rw [d] at g;exact ⟨g.1,rfl⟩
   | ref p ag=>rw [d] at g;exact ⟨rfl,g.2⟩
   | ptr p=>rw [d] at g;exact ⟨rfl,g.2⟩
   | eptr u t=>rw [d] at g;exact ⟨rfl,g.2⟩
   | eref p=>rw [d] at g;exact ⟨rfl,g.2⟩
   | tref t' ags=>rw [d] at g;exact ⟨rfl,g.2⟩
   | sptr r z p=>rw [d] at g;exact ⟨rfl,g.2⟩
   | clos f y=>rw [d] at g;exact ⟨rfl,g.2⟩
   | sclos f A u=>rw [d] at g;exact ⟨rfl,g.2⟩
  ·have:σ.slot t= .dead:=Z2c _ _ (Nat.le_of_not_lt ht)
   simp only [State.peek,this,Z01]
 | const v=>
  cases v with
  | int k n=>exact ⟨rfl,rfl,rfl,rfl⟩
  | bool b=>exact ⟨rfl,rfl,rfl,rfl⟩
  | string s=>exact ⟨rfl,rfl,rfl,rfl⟩
  | slice l len cap=>
   cases l with
   | none=>
    cases len with
    | zero=>cases cap with
     | zero=>exact ⟨rfl,rfl⟩
     | succ n=>simp [State.peek,Z01]
    | succ n=>simp [State.peek,Z01]
   | some x=>simp [State.peek,Z01]
  | _=>simp [State.peek,Z01]
 | func f=>exact ⟨rfl,#[],rfl,rfl,λi m=>by simp at m⟩
 | _=>simp [State.peek,Z01]
theorem Z0G {p:Place} {u:TVal} (h:σ.getAt p=some u):∃ c,σ.content p=some c/\Z0b c.τ c.x c.tg p.path=some u:=by
 unfold State.getAt at h
 obtain ⟨c,b,d⟩:=Option.bind_eq_some_iff.1 h
 exact ⟨c,b,d⟩
theorem Z2t (I:Inv W0 M σ a w G xs) {p:Place} {u:TVal} {cs:List Value} {base:Option (Nat×Nat)} (h:σ.getAt p=some u) (q:Z0C σ G a w p cs base) :
  ∃ fp,Rp w G.F G.St G.Al u.τ u.tg cs u.x fp:=by
 obtain ⟨c,j,m⟩:=Z0G h
 obtain ⟨τ,l,b,d,r,n⟩:=q
 obtain ⟨l',y,fp,f,i,z⟩:=Z0H I j
 rw [r] at f
 cases f
 have:τ=c.τ:=by rw [State.ct,j] at d;simpa using d.symm
 subst this
 obtain ⟨g,k,_⟩:=i.get n m
 exact ⟨g,k⟩
theorem Z1n (I:Inv W0 M σ a w G xs) {o:Operand} {v:TVal} (h:σ.look o=some v) :
  Rp w G.F G.St G.Al v.τ v.tg (Z02 (a.eval o)) v.x []/\Z0f v.ag (a.eval o):=by
 unfold State.look at h
 have b:=Z0w I o
 split at h
 ·rename_i u k
  cases h
  rw [k] at b
  have:=b (by simp)
  exact ⟨this.2,this.1⟩
 ·rename_i p ag k
  rw [k] at b
  obtain ⟨_,d⟩:=b (by simp)
  obtain ⟨u,l,rfl⟩:=Option.map_eq_some_iff.1 h
  rcases d with d | ⟨cs,base,g,f,j⟩
  ·obtain ⟨c,m,_⟩:=Z0G l
   rw [State.ct,m] at d;cases d
  ·obtain ⟨fp,i⟩:=Z2t I l g
   rw [f]
   exact ⟨i.alias (Ghost.St_Al I),j⟩
 ·cases h
theorem Z10 (I:Inv W0 M σ a w G xs) {o:Operand} {τ:Ty} {v:TVal} {σ':State} (h:σ.take o τ=some (v,σ')) :
  ∃ fp G',Inv W0 M σ' a w G' (fp++xs)/\Sim G G'/\v.τ=τ /\
   Rp w G'.F G'.St G'.Al v.τ v.tg (Z02 (a.eval o)) v.x fp/\Z0f v.ag (a.eval o):=by
 unfold State.take at h
 have q:=Z0w I o
 split at h
 ·rename_i E
  rw [E] at q
  obtain ⟨W,_⟩:=q (by simp)
  split at h
  ·cases h
   refine ⟨[],G,I,Sim.refl _,rfl,?_,?_⟩
   ·rw [W]
    exact ⟨.O,none,0,rfl,rfl,Nat.le_refl _,.inl ⟨rfl,rfl,rfl,rfl,rfl⟩⟩
   ·rw [W];rfl
  ·cases h
 ·rename_i u E
  rw [E] at q
  have:=q (by simp)
  split at h
  ·cases h
   rename_i K
   exact ⟨[],G,I,Sim.refl _,K,this.2,this.1⟩
  ·cases h
 ·rename_i p ag E
  rw [E] at q
  obtain ⟨_,J⟩:=q (by simp)
  split at h
  ·rename_i u P
   split at h
   ·rename_i K
    rcases J with J | ⟨cs,base,z,r,D⟩
    ·obtain ⟨c,n,_⟩:=Z0G P
     rw [State.ct,n] at J;cases J
    split at h
    ·rename_i d
     simp only [Bool.and_eq_true] at d
     obtain ⟨σ2,f,he⟩:=Option.map_eq_some_iff.1 h
     cases he
     obtain ⟨c,n,m⟩:=Z0G P
     unfold State.setAt at f
     rw [n] at f
     simp only [Option.bind_some,Option.map_eq_some_iff] at f
     obtain ⟨⟨X,H⟩,Q,rfl⟩:=f
     obtain ⟨τc,l,b,y,C,V⟩:=z
     obtain ⟨l',b',fpc,A,i,hw⟩:=Z0H I n
     rw [C] at A
     cases A
     have:τc=c.τ:=by rw [State.ct,n] at y;simpa using y.symm
     subst this
     obtain ⟨f1,fi,f2,Z,T,e3,e4,e5⟩:=Rp.flatLens d.2 i V m
     obtain ⟨fg,B,_⟩:=i.get V m
     have j:cs.take (size u.τ)=cs:=by rw [<-B.len.1];simp
     have k:=e5 u.alias (cs.take (size u.τ)) [] X H Q rfl (by rw [j];exact B.alias (Ghost.St_Al I))
     have R:=Z1t d.2 m
     rw [e4,Z36 (by rw [i.len.1];exact R)] at k
     have L:G.fpOf p=f1++fi++f2:=by
      rw [<-Z]
      rcases hw with ⟨U,_,rfl,_⟩ | ⟨U,_,rfl,_⟩<;>simp [Ghost.fpOf,U]
     obtain ⟨G',Y,g⟩:=I.recontent (c':=⟨c.τ,c.ag,X,H⟩) n rfl rfl C k (fi:=fi) (by
      rw [L]
      simp only [List.append_nil]
      rw [List.append_assoc,List.append_assoc]
      exact List.Perm.append_left _ List.perm_append_comm)
     refine ⟨fi,G',Y,g,K,?_,D⟩
     rw [g.F,g.St,g.Al,r]
     rw [j] at T
     exact T
    ·cases h
     obtain ⟨fp,i⟩:=Z2t I P z
     refine ⟨[],G,I,Sim.refl _,K,?_,D⟩
     rw [r]
     exact i.alias (Ghost.St_Al I)
   ·cases h
  ·cases h
 ·cases h
end
end Go.PI
namespace Go.PI
noncomputable section
def zeroCells:Ty->List Value
 | .int k=>[.int k 0]
 | .bool=>[.bool false]
 | .str=>[.string ⟨#[]⟩]
 | .unit=>[]
 | .slice _=>[.slice none 0 0]
 | .pair a b=>zeroCells a++zeroCells b
structure FieldF (P:Program) (tys:List (TypeId×Ty×List TypeId)) (τ:Ty) (l:List TypeId) (fs:Array Field) (i:Nat):Prop where
 out : ∃ f τf lf, fs[i]? = some f ∧ f.type = l.getD i 0 ∧ f.offset = Z0g τ (Z09 l.length i) ∧ Z0d τ (Z09 l.length i) = some τf ∧ Z0o tys f.type = some (τf, lf) ∧ size τf ≠ 0 ∧ f.name ≠ "_"
def Z7j:Ty->Bool
 | .int _=>true
 | .bool=>true
 | .str=>true
 | _=>false
structure TyF (P:Program) (tys:List (TypeId×Ty×List TypeId)) (t:TypeId) (τ:Ty) (l:List TypeId):Prop where
 info:∃ i z,P.info? t=some i/\i.size=size τ/\i.bytes<=65536/\i.bytes≠0/\i.zero=some z/\z.cells.toList=zeroCells τ/\Z0f (!l.isEmpty) z
 und:l=[]->((∀ k,τ= .int k->P.underlying t=some (.int k))/\(τ= .bool->P.underlying t=some .bool)/\(τ= .str->P.underlying t=some .string) /\
  (∀ e,τ= .slice e->∃ et,P.underlying t=some (.slice et)/\Z0A tys et=some e/\(Z7j e=true->Z0p tys et=false))/\(τ≠ .unit)/\(∀ a b,τ≠ .pair a b))
 str:l≠[]->∃ fs,P.underlying t=some (.struct fs)/\fs.size=l.length/\(∀ i,i<l.length->FieldF P tys τ l fs i)/\P.stoodInHeld t=false
def Z0e (P:Program) (tys:List (TypeId×Ty×List TypeId)):Prop:=∀ t τ l,Z0o tys t=some (τ,l)->TyF P tys t τ l
def Z37:Ty->List Value->Bool
 | .int k,cs=>match cs with | [.int d n]=>decide (k=d)&&decide (n=0) | _=>false
 | .bool,cs=>match cs with | [.bool b]=> !b | _=>false
 | .str,cs=>match cs with | [.string s]=>decide (s.size=0) | _=>false
 | .unit,cs=>cs.isEmpty
 | .slice _,cs=>match cs with | [.slice none 0 0]=>true | _=>false
 | .pair a b,cs=>Z37 a (cs.take (size a))&&Z37 b (cs.drop (size a))
theorem Z5K:{τ:Ty}->{cs:List Value}->Z37 τ cs=true->cs=zeroCells τ
 | .int k,cs,h=>by
  simp only [Z37] at h
  split at h
  ·simp only [Bool.and_eq_true,decide_eq_true_eq] at h
   obtain ⟨rfl,rfl⟩:=h;rfl
  ·cases h
 | .bool,cs,h=>by
  simp only [Z37] at h
  split at h
  ·rename_i b;cases b
   ·rfl
   ·cases h
  ·cases h
 | .str,cs,h=>by
  simp only [Z37] at h
  split at h
  ·rename_i s
   simp only [decide_eq_true_eq] at h
   obtain ⟨⟨l⟩⟩:=s
   have:l=[]:=List.length_eq_zero_iff.1 h
   subst this;rfl
  ·cases h
 | .unit,cs,h=>by simp only [Z37,List.isEmpty_iff] at h;exact h
 | .slice _,cs,h=>by
  simp only [Z37] at h
  split at h
  ·rfl
  ·cases h
 | .pair a b,cs,h=>by
  simp only [Z37,Bool.and_eq_true] at h
  have d:=Z5K h.1
  have f:=Z5K h.2
  rw [zeroCells,<-d,<-f,List.take_append_drop]
def Z9r:Value->Bool | .agg _=>true | _=>false
def Z8C (P:Program) (tys:List (TypeId×Ty×List TypeId)) (τ:Ty) (l:List TypeId) (d:Array Field) (i:Nat):Bool:=
 match d[i]?,Z0d τ (Z09 l.length i) with
 | some f, some b => decide (f.type = l.getD i 0) && decide (f.offset = Z0g τ (Z09 l.length i)) && decide (Z0A tys f.type = some b) && decide (size b ≠ 0) && decide (f.name ≠ "_")
 | _,_=>false
def tyB (P:Program) (tys:List (TypeId×Ty×List TypeId)) (t:TypeId) (τ:Ty) (l:List TypeId):Bool:=
 (match P.info? t with
  | some i=>decide (i.size=size τ)&&decide (i.bytes<=65536)&&decide (i.bytes≠0)&&(match i.zero with | some z=>Z37 τ z.cells.toList&&(if l.isEmpty then one z else Z9r z) | none=>false)
  | none=>false) &&
 (match l with
  | []=>(match τ,P.underlying t with
   | .int k,some (.int d)=>decide (k=d)
   | .bool,some .bool=>true
   | .str,some .string=>true
   | .slice e,some (.slice et)=>decide (Z0A tys et=some e)&&(!Z7j e|| !Z0p tys et)
   | _,_=>false)
  | _=>(match P.underlying t with
   | some (.struct b)=>decide (b.size=l.length)&&(List.range l.length).all (Z8C P tys τ l b)&& !P.stoodInHeld t
   | _=>false))
def Z9W (P:Program) (tys:List (TypeId×Ty×List TypeId)):Bool:=tys.all λx=>tyB P tys x.1 x.2.1 x.2.2
theorem Z6t {α:Type}:{l:List (Nat×α)}->{n:Nat}->{a:α}->Z0o l n=some a->(n,a)∈l
 | (m,b)::l,n,a,h=>by
  simp only [Z0o] at h
  split at h
  ·rename_i d;simp at d;subst d;cases h;simp
  ·exact List.mem_cons_of_mem _ (Z6t h)
theorem Zac {P:Program} {tys:List (TypeId×Ty×List TypeId)} (h:Z9W P tys=true):Z0e P tys:=by
 intro t τ l G
 have I:=Z6t G
 have y:=List.all_eq_true.1 h _ I
 simp only [tyB,Bool.and_eq_true] at y
 obtain ⟨n,b⟩:=y
 refine ⟨?_,?_,?_⟩
 ·split at n
  ·rename_i i w
   simp only [Bool.and_eq_true,decide_eq_true_eq] at n
   obtain ⟨⟨⟨B,C⟩,r⟩,d⟩:=n
   split at d
   ·rename_i z K
    simp only [Bool.and_eq_true] at d
    refine ⟨i,z,w,B,C,r,K,Z5K d.1,?_⟩
    cases p:l.isEmpty with
    | true=>rw [p] at d;simp only [if_true] at d;exact d.2
    | false=>
     rw [p] at d
     simp only [Bool.false_eq_true,if_false] at d
     cases z<;>simp_all [Z9r,Z0f]
   ·cases d
  ·cases n
 ·rintro rfl
  simp only [] at b
  split at b
  ·rename_i k R g
   simp only [decide_eq_true_eq] at b;subst b
   exact ⟨λk h=>by cases h;exact g,by simp,by simp,by simp,by simp,by simp⟩
  ·rename_i g
   exact ⟨by simp,λ_=>g,by simp,by simp,by simp,by simp⟩
  ·rename_i g
   exact ⟨by simp,by simp,λ_=>g,by simp,by simp,by simp⟩
  ·rename_i e et g
   simp only [Bool.and_eq_true,decide_eq_true_eq,Bool.or_eq_true,Bool.not_eq_true'] at b
   refine ⟨by simp,by simp,by simp,λQ h=> ?_,by simp,by simp⟩
   cases h
   exact ⟨et,g,b.1,λJ=>b.2.resolve_left (by rw [J];simp)⟩
  ·cases b
 ·intro p
  cases l with
  | nil=>exact absurd rfl p
  | cons a l=>
   simp only [] at b
   split at b
   ·rename_i A g
    simp only [Bool.and_eq_true,decide_eq_true_eq,List.all_eq_true,List.mem_range,Bool.not_eq_true'] at b
    refine ⟨A,g,b.1.1,λi w=> ?_,b.2⟩
    have:=b.1.2 i w
    unfold Z8C at this
    split at this
    ·rename_i f M H L
     simp only [Bool.and_eq_true,decide_eq_true_eq] at this
     obtain ⟨⟨⟨⟨D,E⟩,m⟩,F⟩,q⟩:=this
     unfold Z0A at m
     cases j:Z0o tys f.type with
     | none=>rw [j] at m;cases m
     | some x=>
      rw [j] at m
      simp only [Option.map_some,Option.some.injEq] at m
      exact ⟨⟨f,M,x.2,H,D,E,L,by rw [<-m];exact j,F,q⟩⟩
    ·cases this
   ·cases b
theorem Z2Y {w:World} {F:Nat->Nat} {St Al:Nat->Prop}:(τ:Ty)->Rp w F St Al τ (List.replicate (Z05 τ) .O) (zeroCells τ) (zero τ) []
 | .int _=>⟨rfl,rfl,rfl⟩
 | .bool=>⟨rfl,rfl,rfl⟩
 | .str=>⟨rfl,rfl,rfl⟩
 | .unit=>⟨rfl,rfl,rfl⟩
 | .slice e=>⟨.O,none,0,rfl,rfl,Nat.le_refl _,.inl ⟨rfl,rfl,rfl,rfl,rfl⟩⟩
 | .pair a b=>by
  have:=Rp.pair_mk (Z2Y (w:=w) (F:=F) (St:=St) (Al:=Al) a) (Z2Y b)
  rw [List.replicate_append_replicate] at this
  exact this
end
end Go.PI
namespace Go.PI
theorem Z0r {v:Value} (h:one v=true):Z02 v=[v]:=by cases v<;>simp_all [one,Z02,Value.cells]
section
variable {w:World} {F:Nat->Nat} {St Al:Nat->Prop} {v:Value} {tg:List Tag} {fp:List Nat}
theorem Z9n {k:IntKind} {x:Int} (b:Z0f false v) (h:Rp w F St Al (.int k) tg (Z02 v) x fp):v= .int k x:=by
 have:=h.1;rw [Z0r b] at this;simpa using this
theorem Z5J {x:Bool} (b:Z0f false v) (h:Rp w F St Al .bool tg (Z02 v) x fp):v= .bool x:=by
 have:=h.1;rw [Z0r b] at this;simpa using this
theorem Z9o {x:ByteArray} (b:Z0f false v) (h:Rp w F St Al .str tg (Z02 v) x fp):v= .string x:=by
 have:=h.1;rw [Z0r b] at this;simpa using this
theorem Z2A {e:Ty} {x:List (El e)} (f:Z0f false v) (h:Rp w F St Al (.slice e) tg (Z02 v) x fp):∃ a cap,v= .slice a x.length cap/\x.length<=cap:=by
 obtain ⟨t,a,cap,_,b,d,_⟩:=h;rw [Z0r f] at b;exact ⟨a,cap,by simpa using b,d⟩
end
theorem Z1Z {w:World} {b o n:Nat} {cs:List Value} (h:Z04 w b o n=some cs) (j:Nat) (v:Value) (f:cs[j]? = some v):w.cell? ((⟨b,o,none⟩:Addr).add j)=some v:=by
 have d:(⟨b,o,none⟩:Addr).add j=⟨b,o+j,none⟩:=by unfold Addr.add;split<;>simp_all
 rw [d]
 unfold Z04 at h
 split at h
 ·rename_i c T fr g
  split at h
  ·cases h
   simp only [World.cell?,g]
   simp only [List.getElem?_take,List.getElem?_drop] at f
   split at f
   ·simpa using f
   ·cases f
  ·cases h
 ·cases h
theorem Z1C (τ:Ty):Z0d τ []=some τ:=by cases τ<;>rfl
theorem Z4B (τ:Ty):Z0g τ []=0:=by cases τ<;>rfl
theorem Z0U {w:World}:{q:List Step}->{τ d:Ty}->{cs:List Value}->{base:Option (Nat×Nat)}->Z0d τ q=some d->cs.length=size τ ->
  Z00 w τ cs base q=some ((cs.drop (Z0g τ q)).take (size d),base.map λx=>(x.1,x.2+Z0g τ q))/\Z0g τ q+size d<=size τ
 | [],τ,d,cs,base,h,g=>by
  rw [Z1C] at h;cases h
  rw [Z0Q,Z4B]
  refine ⟨?_,by omega⟩
  rw [List.drop_zero,<-g,List.take_length]
  cases base<;>simp
 | .fst::p,.pair a b,d,cs,base,h,g=>by
  simp only [Z0d] at h
  simp only [size] at g
  obtain ⟨i,j⟩:=Z0U (w:=w) (cs:=cs.take (size a)) (base:=base) h (by simp;omega)
  simp only [Z00,Z0g,size]
  refine ⟨?_,by omega⟩
  rw [i,List.drop_take,List.take_take]
  congr 2
  congr 1
  omega
 | .snd::p,.pair a b,d,cs,base,h,g=>by
  simp only [Z0d] at h
  simp only [size] at g
  obtain ⟨i,j⟩:=Z0U (w:=w) (cs:=cs.drop (size a)) (base:=base.map λx=>(x.1,x.2+size a)) h (by simp;omega)
  simp only [Z00,Z0g,size]
  refine ⟨?_,by omega⟩
  rw [i,List.drop_drop]
  cases base with
  | none=>rfl
  | some z=>simp [Nat.add_assoc]
 | .idx _::_,.int _,_,_,_,h,_=>by simp [Z0d] at h
 | .idx _::_,.bool,_,_,_,h,_=>by simp [Z0d] at h
 | .idx _::_,.str,_,_,_,h,_=>by simp [Z0d] at h
 | .idx _::_,.unit,_,_,_,h,_=>by simp [Z0d] at h
 | .idx _::_,.slice _,_,_,_,h,_=>by simp [Z0d] at h
 | .idx _::_,.pair _ _,_,_,_,h,_=>by simp [Z0d] at h
 | .fst::_,.int _,_,_,_,h,_=>by simp [Z0d] at h
 | .fst::_,.bool,_,_,_,h,_=>by simp [Z0d] at h
 | .fst::_,.str,_,_,_,h,_=>by simp [Z0d] at h
 | .fst::_,.unit,_,_,_,h,_=>by simp [Z0d] at h
 | .fst::_,.slice _,_,_,_,h,_=>by simp [Z0d] at h
 | .snd::_,.int _,_,_,_,h,_=>by simp [Z0d] at h
 | .snd::_,.bool,_,_,_,h,_=>by simp [Z0d] at h
 | .snd::_,.str,_,_,_,h,_=>by simp [Z0d] at h
 | .snd::_,.unit,_,_,_,h,_=>by simp [Z0d] at h
 | .snd::_,.slice _,_,_,_,h,_=>by simp [Z0d] at h
def Z0L (ag:Bool) (cs:List Value):Value:=if ag then .agg cs.toArray else cs.headD undef
theorem Z1W {P:Program} {tys:List (TypeId×Ty×List TypeId)} (J:Z0e P tys) {t:TypeId} {τ:Ty} {l:List TypeId} (ht:Z0o tys t=some (τ,l)) {w:World} {b o:Nat} {cs:List Value}
  (h:Z04 w b o (size τ)=some cs):(loadVar t ⟨b,o,none⟩).run P w= .ok (Z0L (!l.isEmpty) cs) w:=by
 obtain ⟨⟨i,z,M,Q,_,_,U,T,_⟩,R,r⟩:=J t τ l ht
 have f:=Z1z h
 cases l with
 | cons a l=>
  obtain ⟨A,L,_,_⟩:=r (by simp)
  have:=run_loadCells_list (P:=P) w ⟨b,o,none⟩ cs (Z1Z h)
  rw [f,<-Q] at this
  simp [loadVar,isAgg,run_underlying L,sizeOf,typeInfo,M,this,Z0L]
 | nil=>
  have q:∃ d,P.underlying t=some d/\(∀ A,d≠ .struct A)/\(∀ n e,d≠ .array n e)/\size τ=1:=by
   obtain ⟨j,C,D,E,G,H⟩:=R rfl
   cases τ with
   | int k=>exact ⟨_,j k rfl,by simp,by simp,rfl⟩
   | bool=>exact ⟨_,C rfl,by simp,by simp,rfl⟩
   | str=>exact ⟨_,D rfl,by simp,by simp,rfl⟩
   | unit=>exact absurd rfl G
   | slice e=>obtain ⟨et,I,_,_⟩:=E e rfl;exact ⟨_,I,by simp,by simp,rfl⟩
   | pair a b=>exact absurd rfl (H a b)
  obtain ⟨d,K,m,p,y⟩:=q
  have j:∃ c,cs=[c]:=by
   rw [y] at f
   match cs,f with
   | [c],_=>exact ⟨c,rfl⟩
  obtain ⟨c,rfl⟩:=j
  have B:=Z1Z h 0 c rfl
  have g:(isAgg t).run P w= .ok false w:=by
   simp only [isAgg,Sem.run_bind,run_underlying K,Result.andThen_ok]
   cases d<;>first | rfl | (exact absurd rfl (m _)) | (exact absurd rfl (p _ _))
  simp only [loadVar,Sem.run_bind,g,Result.andThen_ok,Bool.false_eq_true,if_false]
  rw [run_load]
  have:(⟨b,o,none⟩:Addr).add 0=⟨b,o,none⟩:=by simp [Addr.add]
  rw [this] at B
  rw [B]
  rfl
end Go.PI
namespace Go.PI
def Z4l (w:World) (G:Ghost) (w2:World):Prop:=∀ i b,G.who b=some (.a i)->w2.heap[b]? = w.heap[b]?
def Z6e (w:World) (G:Ghost) (w2:World):Prop:=
 (∀ b,b<w.heap.size->G.Al b->∀ o n cs,o+n<=G.F b->Z04 w b o n=some cs->Z04 w2 b o n=some cs)/\∀ i b,G.who b=some (.a i)->w2.heap[b]? = w.heap[b]?
theorem Rp.ones {w:World} {F:Nat->Nat} {St Al:Nat->Prop}:{τ:Ty}->{tg:List Tag}->{cs:List Value}->{x:El τ}->{fp:List Nat}->Rp w F St Al τ tg cs x fp->∀ c∈cs,one c=true
 | .int _,_,_,_,_,h=>by obtain ⟨rfl,_⟩:=h;simp [one]
 | .bool,_,_,_,_,h=>by obtain ⟨rfl,_⟩:=h;simp [one]
 | .str,_,_,_,_,h=>by obtain ⟨rfl,_⟩:=h;simp [one]
 | .unit,_,_,_,_,h=>by obtain ⟨rfl,_⟩:=h;simp
 | .slice _,_,_,_,_,h=>by obtain ⟨t,a,cap,rfl,rfl,_⟩:=h;simp [one]
 | .pair a b,_,_,_,_,h=>by
  obtain ⟨k,l,c1,c2,i,j,rfl,rfl,rfl,f,g⟩:=h
  intro c d
  rcases List.mem_append.1 d with d | d
  ·exact Rp.ones f c d
  ·exact Rp.ones g c d
theorem Z1e {ag:Bool} {cs:List Value} (b:∀ c∈cs,one c=true) (d:ag=false->cs.length=1):Z02 (Z0L ag cs)=cs/\Z0f ag (Z0L ag cs):=by
 cases ag with
 | true=>exact ⟨by simp [Z0L,Z02,Value.cells],⟨_,rfl⟩⟩
 | false=>
  match cs,d rfl with
  | [c],_=>
   have:=b c (by simp)
   exact ⟨Z0r this,this⟩
theorem Z30 {w:World} {b o n:Nat} {cs:List Value} (h:Z04 w b o n=some cs) {i m:Nat} (f:i+m<=n):Z04 w b (o+i) m=some ((cs.drop i).take m):=by
 unfold Z04 at *
 split at h
 ·rename_i c T fr d
  split at h
  ·cases h
   rw [if_pos (by omega)]
   congr 1
   rw [List.drop_take,List.drop_drop,List.take_take]
   congr 1
   omega
  ·cases h
 ·cases h
section
variable {W0:Base} {M:Nat->Prop} {σ:State} {a:Act} {w:World} {G:Ghost} {xs:List Nat}
theorem Z3t {F:Nat->Nat} {St Al:Nat->Prop} (y:∀ b,St b->Al b) :
  {path:List Step}->{τ:Ty}->{tg:List Tag}->{cs f:List Value}->{x:El τ}->{fp:List Nat}->{base:Option (Nat×Nat)}->{k o':Nat} ->
  Rp w F St Al τ tg cs x fp->(∀ b o,base=some (b,o)->Z04 w b o cs.length=some cs)->Z00 w τ cs base path=some (f,some (k,o')) ->
  Z04 w k o' f.length=some f/\((∃ o,base=some (k,o)/\o<=o'/\o'+f.length<=o+cs.length)\/(Al k/\o'+f.length<=F k))
 | [],τ,tg,cs,f,x,fp,base,k,o',h,D,d=>by
  rw [Z0Q] at d
  simp only [Option.some.injEq,Prod.mk.injEq] at d
  obtain ⟨rfl,g⟩:=d
  exact ⟨D _ _ g,.inl ⟨o',g,Nat.le_refl _,Nat.le_refl _⟩⟩
 | .fst::p,.pair a b,tg,cs,f,x,fp,base,k,o',h,D,d=>by
  have q:=h.len.1
  obtain ⟨f1,f2,rfl,h1,h2⟩:=h.pair_parts
  simp only [size] at q
  obtain ⟨E,B⟩:=Z3t y (path:=p) h1 (λb o g=>by
   have:=Z30 (D b o g) (i:=0) (m:=(cs.take (size a)).length) (by simp;omega)
   simp only [Nat.add_zero,List.drop_zero] at this
   rw [this];simp) d
  refine ⟨E,B.imp (λ⟨o,r,T,Q⟩=>⟨o,r,T,?_⟩) id⟩
  simp at Q;omega
 | .snd::p,.pair a b,tg,cs,f,x,fp,base,k,o',h,D,d=>by
  have q:=h.len.1
  obtain ⟨f1,f2,rfl,h1,h2⟩:=h.pair_parts
  simp only [size] at q
  obtain ⟨E,B⟩:=Z3t y (path:=p) h2 (λb o g=>by
   cases j:base with
   | none=>rw [j] at g;cases g
   | some z=>
    rw [j] at g
    simp only [Option.map_some,Option.some.injEq,Prod.mk.injEq] at g
    obtain ⟨rfl,rfl⟩:=g
    have:=Z30 (D z.1 z.2 j) (i:=size a) (m:=(cs.drop (size a)).length) (by simp;omega)
    rw [this,List.take_length]) d
  refine ⟨E,B.imp (λ⟨o,r,T,Q⟩=> ?_) id⟩
  cases j:base with
  | none=>rw [j] at r;cases r
  | some z=>
   rw [j] at r
   simp only [Option.map_some,Option.some.injEq,Prod.mk.injEq] at r
   obtain ⟨rfl,rfl⟩:=r
   refine ⟨z.2,rfl,by omega,?_⟩
   simp at Q;omega
 | .idx i::p,.slice e,tg,cs,f,x,fp,base,k,o',h,D,d=>by
  obtain ⟨t,ad,cap,rfl,rfl,hlc,h⟩:=h
  simp only [Z00] at d
  split at d
  ·rename_i b o len Z H
   simp only [List.cons.injEq,Value.slice.injEq,and_true] at H
   obtain ⟨rfl,rfl,rfl⟩:=H
   split at d
   ·rename_i I
    split at d
    ·rename_i R A
     have V:=Z1z A
     have hbd:o+i * size e+size e<=o+List.length (α:=El e) x * size e:=by
      have:(i+1) * size e<=List.length (α:=El e) x * size e:=Nat.mul_le_mul_right _ I
      rw [Nat.add_mul,Nat.one_mul] at this
      omega
     have L:∀ {P f'} (_:Rp w F St Al e P R (List.get (α:=El e) x ⟨i,I⟩) f') (_:Al b) (_:o+List.length (α:=El e) x * size e<=F b),
       Z04 w k o' f.length=some f/\((∃ o,base=some (k,o)/\o<=o'/\o'+f.length<=o+1)\/(Al k/\o'+f.length<=F k)):=by
      intro P f' J C U
      obtain ⟨E,B⟩:=Z3t y (path:=p) J (λY X g=>by
       simp only [Option.some.injEq,Prod.mk.injEq] at g
       obtain ⟨rfl,rfl⟩:=g
       rw [V];exact A) d
      refine ⟨E,.inr ?_⟩
      rcases B with ⟨X,r,T,Q⟩ | B
      ·simp only [Option.some.injEq,Prod.mk.injEq] at r
       obtain ⟨rfl,rfl⟩:=r
       exact ⟨C,by omega⟩
      ·exact B
     rcases h with ⟨_,hn,_⟩ | ⟨ho,Y,X,fps,l,C,rfl,hlf,hr,U,W⟩ | ⟨ho,rfl,h⟩
     ·cases hn
     ·simp only [Option.some.injEq,Addr.mk.injEq,and_true] at l
      obtain ⟨rfl,rfl⟩:=l
      obtain ⟨c2,n,J⟩:=W i I
      rw [A] at n
      cases n
      exact L J C (by omega)
     ·rcases h with h | ⟨Y,X,l,K,U,W⟩
      ·subst h;simp at I
      ·simp only [Option.some.injEq,Addr.mk.injEq,and_true] at l
       obtain ⟨rfl,rfl⟩:=l
       obtain ⟨c2,n,J⟩:=W i I
       rw [A] at n
       cases n
       refine L J ?_ U
       cases t with
       | S=>exact y b K
       | N=>exact K
       | _=>cases ho
    ·cases d
   ·cases d
  ·cases d
 | .fst::_,.int _,_,_,_,_,_,_,_,_,_,_,d=>by simp [Z00] at d
 | .fst::_,.bool,_,_,_,_,_,_,_,_,_,_,d=>by simp [Z00] at d
 | .fst::_,.str,_,_,_,_,_,_,_,_,_,_,d=>by simp [Z00] at d
 | .fst::_,.unit,_,_,_,_,_,_,_,_,_,_,d=>by simp [Z00] at d
 | .fst::_,.slice _,_,_,_,_,_,_,_,_,_,_,d=>by simp [Z00] at d
 | .snd::_,.int _,_,_,_,_,_,_,_,_,_,_,d=>by simp [Z00] at d
 | .snd::_,.bool,_,_,_,_,_,_,_,_,_,_,d=>by simp [Z00] at d
 | .snd::_,.str,_,_,_,_,_,_,_,_,_,_,d=>by simp [Z00] at d
 | .snd::_,.unit,_,_,_,_,_,_,_,_,_,_,d=>by simp [Z00] at d
 | .snd::_,.slice _,_,_,_,_,_,_,_,_,_,_,d=>by simp [Z00] at d
 | .idx _::_,.int _,_,_,_,_,_,_,_,_,_,_,d=>by simp [Z00] at d
 | .idx _::_,.bool,_,_,_,_,_,_,_,_,_,_,d=>by simp [Z00] at d
 | .idx _::_,.str,_,_,_,_,_,_,_,_,_,_,d=>by simp [Z00] at d
 | .idx _::_,.unit,_,_,_,_,_,_,_,_,_,_,d=>by simp [Z00] at d
 | .idx _::_,.pair _ _,_,_,_,_,_,_,_,_,_,_,d=>by simp [Z00] at d
theorem Z1A (I:Inv W0 M σ a w G xs) {p:Place} {cs:List Value} {b o:Nat} (K:Z0C σ G a w p cs (some (b,o))) {w2:World} (C:Z6e w G w2) :
  Z04 w2 b o cs.length=some cs:=by
 obtain ⟨τ,l,D,z,i,J⟩:=K
 obtain ⟨c,y,rfl⟩:=Option.map_eq_some_iff.1 z
 obtain ⟨l',Q,fp,j,A,P⟩:=Z0H I y
 rw [i] at j
 cases j
 have f:∀ b o,D=some (b,o)->Z04 w b o l.length=some l/\w2.heap[b]? = w.heap[b]? := by
  intro b o d
  rcases P with ⟨B,r,_,g⟩ | ⟨B,_,_,g,_⟩
  ·rw [g] at d
   simp only [Option.some.injEq,Prod.mk.injEq] at d
   obtain ⟨rfl,rfl⟩:=d
   obtain ⟨⟨m,T,h,L⟩,k⟩:=I.box _ _ r
   refine ⟨?_,C.2 _ _ k⟩
   have:l=m.toList:=by
    unfold Z08 at i
    rw [B] at i
    simp only [h,Option.some.injEq,Prod.mk.injEq] at i
    exact i.1.symm
   subst this
   unfold Z04
   rw [h]
   simp only [Nat.zero_add,List.drop_zero]
   rw [if_pos (by have:m.toList.length=m.size:=Array.length_toList;omega),List.take_length]
  ·rw [g] at d;cases d
 obtain ⟨n,E⟩:=Z3t (Ghost.St_Al I) A (λb o d=>(f b o d).1) J
 rcases E with ⟨R,F,_⟩ | ⟨q,H⟩
 ·rw [Z11 (f _ _ F).2];exact n
 ·exact C.1 b (Z0Y n) q _ _ _ H n
theorem Z1I (I:Inv W0 M σ a w G xs) {p:Place} {u:TVal} {cs:List Value} {base:Option (Nat×Nat)} (h:σ.getAt p=some u) (d:Z0C σ G a w p cs base) :
  cs.length=size u.τ/\∀ c∈cs,one c=true:=by
 obtain ⟨fp,b⟩:=Z2t I h d
 exact ⟨b.len.1,b.ones⟩
theorem Z2y (I:Inv W0 M σ a w G xs) {p:Place} {ag:Bool} {tv:TV} {v:Value} {cs:List Value} {base:Option (Nat×Nat)} (h:Z34 σ p ag=some tv) (d:Z0C σ G a w p cs base)
  (i:Z02 v=cs) (g:Z0f ag v):Z01 σ G a w tv v []:=by
 unfold Z34 at h
 split at h
 ·rename_i u k
  cases h
  split
  ·rename_i j
   obtain ⟨fp,f⟩:=Z2t I k d
   have b:fp=[]:=f.fp_nil λt ht=>by
    have:=List.all_eq_true.1 j t ht
    cases t<;>first | rfl | cases this
   subst b
   exact ⟨g,by rw [i];exact f⟩
  ·exact ⟨rfl,.inr ⟨cs,base,d,i,g⟩⟩
 ·cases h
theorem Z0x.some {p:Place} {v:Value} {u:TVal} (h:Z0x σ G a w p v) (f:σ.getAt p=some u):∃ cs b,Z0C σ G a w p cs (some b)/\v= .pointer (some ⟨b.1,b.2,none⟩):=by
 rcases h with h | h
 ·obtain ⟨c,d,_⟩:=Z0G f
  rw [State.ct,d] at h;cases h
 ·exact h
theorem Z03 {ρ:Operand->Value} {o:Oper} {op:Op} (h:o.op=op):execOp ρ o=execOp ρ { o with op:=op }:=by cases o;simp only at h;subst h;rfl
def Z5M (P:Program) (σ:State) (a:Act) (w:World) (G:Ghost) (o:Oper) (tv:TV):Prop:=
 ∃ v,Z01 σ G a w tv v []/\∀ w2,Z6e w G w2->(execOp a.eval o).run P w2= .ok (.value v) w2
def Z0P (P:Program) (σ:State) (a:Act) (w:World) (G:Ghost) (o:Oper) (tv:TV):Prop:=
 ∃ v,Z01 σ G a w tv v []/\∀ w2,(execOp a.eval o).run P w2= .ok (.value v) w2
theorem Z0P.ok {P:Program} {σ:State} {a:Act} {w:World} {G:Ghost} {o:Oper} {tv:TV} (h:Z0P P σ a w G o tv):Z5M P σ a w G o tv:=by
 obtain ⟨v,b,d⟩:=h
 exact ⟨v,b,λw2 _=>d w2⟩
theorem Z8N {P:Program} {tys:List (TypeId×Ty×List TypeId)} (E:Z0e P tys) (I:Inv W0 M σ a w G xs) {o:Oper} {t:TypeId} {x:Operand} (W:o.op= .load t x) {g:Bool} {tv:TV}
  (h:Z0l tys σ o.op=some (g,tv)):Z5M P σ a w G o tv:=by
 rw [W] at h
 simp only [Z0l] at h
 have k:=Z0w I x
 split at h
 ·rename_i τ p V R
  rw [R] at k
  have k:=k (by simp)
  split at h
  ·rename_i u T
   split at h
   ·rename_i q
    obtain ⟨Z,D,F⟩:=Option.map_eq_some_iff.1 h
    simp only [Prod.mk.injEq] at F
    obtain ⟨rfl,rfl⟩:=F
    obtain ⟨⟨B,l⟩,i,y⟩:=Option.map_eq_some_iff.1 V
    simp only at y;subst y
    obtain ⟨cs,b,z,U⟩:=k.2.2.2.some T
    obtain ⟨f,A⟩:=Z1I I T z
    have m:Z0p tys t= !l.isEmpty:=by simp [Z0p,i]
    have n:=Z1e (ag:=Z0p tys t) A (λC=>by
     rw [f,q]
     rw [m] at C
     have L:l=[]:=by simpa using C
     obtain ⟨_,_,_,_,H,J⟩:=(E t B l i).und L
     cases B<;>first | rfl | (exact absurd rfl H) | (exact absurd rfl (J _ _)))
    refine ⟨Z0L (Z0p tys t) cs,Z2y I D z n.1 n.2,λw2 K=> ?_⟩
    have d:=Z1A I z K
    rw [f,q] at d
    have:=Z1W (w:=w2) E i d
    rw [Z03 W]
    simp only [execOp,U,Instr.loadAt,Instr.sureAddr,Sem.run_bind,Sem.run_pure,Result.andThen_ok,this,m]
   ·cases h
  ·cases h
 ·rename_i τ p V R
  rw [R] at k
  have k:=k (by simp)
  split at h
  ·rename_i u T
   split at h
   ·rename_i q
    obtain ⟨Z,D,F⟩:=Option.map_eq_some_iff.1 h
    simp only [Prod.mk.injEq] at F
    obtain ⟨rfl,rfl⟩:=F
    obtain ⟨⟨B,l⟩,i,y⟩:=Option.map_eq_some_iff.1 V
    simp only at y;subst y
    obtain ⟨cs,b,z,U⟩:=k.2.some T
    obtain ⟨f,A⟩:=Z1I I T z
    have m:Z0p tys t= !l.isEmpty:=by simp [Z0p,i]
    have n:=Z1e (ag:=Z0p tys t) A (λC=>by
     rw [f,q]
     rw [m] at C
     have L:l=[]:=by simpa using C
     obtain ⟨_,_,_,_,H,J⟩:=(E t B l i).und L
     cases B<;>first | rfl | (exact absurd rfl H) | (exact absurd rfl (J _ _)))
    refine ⟨Z0L (Z0p tys t) cs,Z2y I D z n.1 n.2,λw2 K=> ?_⟩
    have d:=Z1A I z K
    rw [f,q] at d
    have:=Z1W (w:=w2) E i d
    rw [Z03 W]
    simp only [execOp,U,Instr.loadAt,Instr.sureAddr,Sem.run_bind,Sem.run_pure,Result.andThen_ok,this,m]
   ·cases h
  ·cases h
 ·rename_i τ u tg V R
  rw [R] at k
  obtain ⟨_,hto,b,off,cs,U,d,Y,hF,hN,hr⟩:=k (by simp)
  split at h
  ·rename_i q
   simp only [Option.some.injEq,Prod.mk.injEq] at h
   obtain ⟨rfl,rfl⟩:=h
   obtain ⟨⟨B,l⟩,i,y⟩:=Option.map_eq_some_iff.1 V
   simp only at y;subst y
   have f:=hr.len.1
   have m:Z0p tys t= !l.isEmpty:=by simp [Z0p,i]
   have n:=Z1e (ag:=Z0p tys t) hr.ones (λC=>by
    rw [f,q]
    rw [m] at C
    have L:l=[]:=by simpa using C
    obtain ⟨_,_,_,_,H,J⟩:=(E t B l i).und L
    cases B<;>first | rfl | (exact absurd rfl H) | (exact absurd rfl (J _ _)))
   refine ⟨Z0L (Z0p tys t) cs,⟨n.2,?_⟩,λw2 K=> ?_⟩
   ·rw [n.1]
    exact hr.alias (Ghost.St_Al I)
   ·have hal:G.Al b:=by
     cases tg with
     | S=>exact Ghost.St_Al I b Y
     | N=>exact Y
     | _=>cases hto
    have j:=K.1 b (Z0Y d) hal _ _ _ hF d
    rw [q] at j
    have:=Z1W (w:=w2) E i j
    rw [Z03 W]
    simp only [execOp,U,Instr.loadAt,Instr.sureAddr,Sem.run_bind,Sem.run_pure,Result.andThen_ok,this,m]
  ·cases h
 ·rename_i τ r τr p V R
  rw [R] at k
  obtain ⟨_,hfl,b,off,τ2,U,hat,hlr,d,hSt,hF⟩:=k (by simp)
  split at h
  ·rename_i c hsl
   split at h
   ·rename_i hcr
    split at h
    ·rename_i u T
     split at h
     ·rename_i q
      obtain ⟨Z,D,F⟩:=Option.map_eq_some_iff.1 h
      simp only [Prod.mk.injEq] at F
      obtain ⟨rfl,rfl⟩:=F
      obtain ⟨⟨B,l⟩,i,y⟩:=Option.map_eq_some_iff.1 V
      simp only at y;subst y
      subst hcr
      obtain ⟨hlc,_⟩:=Z0U (w:=w) (cs:=Z02 (a.tmps.getD r undef)) (base:=none) hat hlr
      have z:Z0C σ G a w ⟨false,r,p⟩ (((Z02 (a.tmps.getD r undef)).drop (Z0g c.τ p)).take (size τ2)) none:=
       ⟨c.τ,Z02 (a.tmps.getD r undef),none,by simp [State.ct,State.content,hsl],rfl,hlc⟩
      obtain ⟨f,A⟩:=Z1I I T z
      have Q:=Z1z d
      have m:Z0p tys t= !l.isEmpty:=by simp [Z0p,i]
      have n:=Z1e (ag:=Z0p tys t) A (λC=>by
       rw [f,q]
       rw [m] at C
       have L:l=[]:=by simpa using C
       obtain ⟨_,_,_,_,H,J⟩:=(E t B l i).und L
       cases B<;>first | rfl | (exact absurd rfl H) | (exact absurd rfl (J _ _)))
      refine ⟨Z0L (Z0p tys t) _,Z2y I D z n.1 n.2,λw2 K=> ?_⟩
      have j:=K.1 b (Z0Y d) (Ghost.St_Al I b hSt) _ _ _ hF d
      have X:size τ2=size B:=by rw [<-Q,f,q]
      rw [X] at j
      have:=Z1W (w:=w2) E i j
      rw [Z03 W]
      simp only [execOp,U,Instr.loadAt,Instr.sureAddr,Sem.run_bind,Sem.run_pure,Result.andThen_ok,this,m,X]
     ·cases h
    ·cases h
   ·cases h
  ·cases h
 ·cases h
end
end Go.PI
namespace Go.PI
section
variable {W0:Base} {M:Nat->Prop} {σ:State} {a:Act} {w:World} {G:Ghost} {xs:List Nat} {P:Program} {tys:List (TypeId×Ty×List TypeId)} {o:Oper} {g:Bool} {tv:TV}
theorem Z0B {τ:Ty} {x:El τ} {v:Value} (b:one v=true) (d:Rp w G.F G.St G.Al τ [] [v] x []):Z01 σ G a w (.val (Z0z τ x)) v []:=
 ⟨b,by rw [Z0r b];exact d⟩
theorem Z91 {σ:State} {i:Nat} (h:Z0v .dead σ.slots i≠ .dead):i<σ.slots.length:=by
 rcases Nat.lt_or_ge i σ.slots.length with b | b
 ·exact b
 ·exact absurd (Z2c (d:=TV.dead) σ.slots i b) h
theorem Z3e (I:Inv W0 M σ a w G xs) {x:Operand} (f:o.op= .move x) (h:Z0l tys σ o.op=some (g,tv)):Z0P P σ a w G o tv:=by
 rw [f] at h
 simp only [Z0l] at h
 have n:=Z0w I x
 split at h
 ·cases h
 ·cases h
 ·rename_i v ags b
  split at h
  ·rename_i t
   simp only [Option.some.injEq,Prod.mk.injEq] at h
   obtain ⟨rfl,rfl⟩:=h
   have d:σ.slot t= .tup v ags:=by
    simp only [State.peek] at b
    split at b
    ·split at b<;>cases b
    ·exact b
   have j:=I.slot t (Z91 (by rw [show Z0v .dead σ.slots t= .tup v ags from d];simp))
   rw [d] at j
   obtain ⟨⟨vs,p,i⟩,y⟩:=j
   refine ⟨a.eval (.tmp t),⟨rfl,λτ k=>⟨rfl,vs,p,?_⟩⟩,λw2=>by rw [Z03 f];rfl⟩
   rw [Z1i,d] at k
   cases k
   exact i
  ·cases h
 ·rename_i r q l
  simp only [Option.some.injEq,Prod.mk.injEq] at h
  obtain ⟨rfl,rfl⟩:=h
  refine ⟨a.eval x,n (λv ags m=>l v ags m),λw2=> ?_⟩
  rw [Z03 f];rfl
theorem Z0R (I:Inv W0 M σ a w G xs) {x:Operand} {k:IntKind} {n:Int} {tg:List Tag} (h:σ.look x=some ⟨.int k,false,n,tg⟩):a.eval x= .int k n:=by
 obtain ⟨b,d⟩:=Z1n I h;exact Z9n d b
theorem Z23 (I:Inv W0 M σ a w G xs) {x:Operand} {b:Bool} {tg:List Tag} (h:σ.look x=some ⟨.bool,false,b,tg⟩):a.eval x= .bool b:=by
 obtain ⟨d,f⟩:=Z1n I h;exact Z5J f d
theorem Z24 (I:Inv W0 M σ a w G xs) {x:Operand} {s:ByteArray} {tg:List Tag} (h:σ.look x=some ⟨.str,false,s,tg⟩):a.eval x= .string s:=by
 obtain ⟨b,d⟩:=Z1n I h;exact Z9o d b
theorem Z8l (I:Inv W0 M σ a w G xs) {x:Operand} {e:Ty} {l:List (El e)} {tg:List Tag} (h:σ.look x=some ⟨.slice e,false,l,tg⟩):∃ b cap,a.eval x= .slice b l.length cap/\l.length<=cap:=by
 obtain ⟨d,f⟩:=Z1n I h;exact Z2A f d
theorem Z6J (I:Inv W0 M σ a w G xs) {i:UnOp} {t:TypeId} {x:Operand} (f:o.op= .unOp i t x) (h:Z0l tys σ o.op=some (g,tv)):Z0P P σ a w G o tv:=by
 rw [f] at h
 cases i
 case neg=>
  simp only [Z0l] at h
  split at h
  ·rename_i k n tg d
   simp only [Option.some.injEq,Prod.mk.injEq] at h
   obtain ⟨rfl,rfl⟩:=h
   refine ⟨.int k (k.wrap (0-n)),Z0B rfl ⟨rfl,rfl,rfl⟩,λw2=> ?_⟩
   rw [Z03 f]
   simp only [execOp,Z0R I d]
   simp [Op.unary,Op.intArith]
  ·cases h
 case not=>
  simp only [Z0l] at h
  split at h
  ·rename_i b tg d
   simp only [Option.some.injEq,Prod.mk.injEq] at h
   obtain ⟨rfl,rfl⟩:=h
   refine ⟨.bool (!b),Z0B rfl ⟨rfl,rfl,rfl⟩,λw2=> ?_⟩
   rw [Z03 f]
   simp only [execOp,Z23 I d]
   simp [Op.unary]
  ·cases h
 all_goals (simp only [Z0l] at h;cases h)
theorem Z9k {x y:ByteArray} (h:lim (x.size+y.size)=true) (w2:World):(Op.stringOp .add x y).run P w2= .ok (.string (x++y)) w2:=by
 refine run_string_add_sum (P:=P) w2 x y ?_
 have b:x.size+y.size<=LIM:=of_decide_eq_true h
 have:LIM=2147483648:=rfl
 omega
theorem Z9l {k:IntKind} {m n:Int} (h:¬ n=0) (w2:World):(Op.intDiv .quo k m n).run P w2= .ok (.int k (k.wrap (m.tdiv n))) w2:=by
 unfold Op.intDiv;rw [if_neg h];rfl
theorem Z9m {k:IntKind} {m n:Int} (h:¬ n=0) (w2:World):(Op.intDiv .rem k m n).run P w2= .ok (.int k (m.tmod n)) w2:=by
 unfold Op.intDiv;rw [if_neg h];rfl
theorem Z5y {t:TypeId} (h:P.underlying t=some .bool) (x y:Bool) (w2:World):(Op.equal t (.bool x) (.bool y)).run P w2= .ok (x==y) w2:=by
 show (Op.equalIn (9999+1) t (.bool x) (.bool y)).run P w2=_
 unfold Op.equalIn
 simp only [Sem.run_bind,run_underlying h,Result.andThen_ok]
 rfl
theorem Z8K (b:BinOp) (k:IntKind) (m n:Int) {r:Bool×TVal} (f:Z8X b k m n=some r) (d:r.1=true) (t:TypeId) (x y:Operand) :
  ∃ v,(∀ {σ:State} {a:Act} {w:World} {G:Ghost},Z01 σ G a w (.val r.2) v [])/\∀ w2,((do eqGuard b t x y (.int k m) (.int k n);binOp b t (.int k m) (.int k n):Sem Value)).run P w2= .ok v w2:=by
 cases b<;>simp only [Z8X,Option.some.injEq,reduceCtorEq] at f<;>subst f<;>simp only [Bool.not_eq_true',decide_eq_false_iff_not] at d
 case quo=>
  refine ⟨_,Z0B rfl ⟨rfl,rfl,rfl⟩,λw2=> ?_⟩
  simp only [eqGuard_at_int,Sem.run_bind,Sem.run_pure,Result.andThen_ok]
  simp only [binOp,ne_eq,not_true_eq_false,if_false]
  exact Z9l d w2
 case rem=>
  refine ⟨_,Z0B rfl ⟨rfl,rfl,rfl⟩,λw2=> ?_⟩
  simp only [eqGuard_at_int,Sem.run_bind,Sem.run_pure,Result.andThen_ok]
  simp only [binOp,ne_eq,not_true_eq_false,if_false]
  exact Z9m d w2
 all_goals
  refine ⟨_,Z0B rfl ⟨rfl,rfl,rfl⟩,λw2=> ?_⟩
  simp [eqGuard_at_int,binOp,Op.intArith,Op.intCmp,Op.intBits]
theorem Z8L (b:BinOp) (m n:ByteArray) {r:Bool×TVal} (d:Z8Y b m n=some r) (f:r.1=true) (t:TypeId) (x y:Operand) :
  ∃ v,(∀ {σ:State} {a:Act} {w:World} {G:Ghost},Z01 σ G a w (.val r.2) v [])/\∀ w2,((do eqGuard b t x y (.string m) (.string n);binOp b t (.string m) (.string n):Sem Value)).run P w2= .ok v w2:=by
 cases b<;>simp only [Z8Y,Option.some.injEq,reduceCtorEq] at d<;>subst d
 case add=>
  refine ⟨.string (m++n),Z0B rfl ⟨rfl,rfl,rfl⟩,λw2=> ?_⟩
  simp only [eqGuard_at_string,binOp_string_add,Sem.run_bind,Sem.run_pure,Result.andThen_ok]
  exact Z9k f w2
 all_goals exact ⟨_,Z0B rfl ⟨rfl,rfl,rfl⟩,λw2=>by simp [eqGuard_at_string,binOp,Op.stringOp]⟩
theorem Z0W {t:TypeId} {τ:Ty} (h:Z0A tys t=some τ):∃ l,Z0o tys t=some (τ,l)/\Z0p tys t= !l.isEmpty:=by
 obtain ⟨⟨f,l⟩,b,d⟩:=Option.map_eq_some_iff.1 h
 simp only at d;subst d
 exact ⟨l,b,by simp [Z0p,b]⟩
theorem Z7w (i:Z0e P tys) {t:TypeId} (h:Z0A tys t=some .bool) (f:Z0p tys t=false):P.underlying t=some .bool:=by
 obtain ⟨l,d,b⟩:=Z0W h
 rw [b] at f
 have j:l=[]:=by simpa using f
 exact ((i t _ _ d).und j).2.1 rfl
theorem Z1F (i:Z0e P tys) {t:TypeId} (h:Z0A tys t=some .str) (f:Z0p tys t=false):P.underlying t=some .string:=by
 obtain ⟨l,d,b⟩:=Z0W h
 rw [b] at f
 have j:l=[]:=by simpa using f
 exact ((i t _ _ d).und j).2.2.1 rfl
theorem Z5q (i:Z0e P tys) {t:TypeId} {k:IntKind} (h:Z0A tys t=some (.int k)) (f:Z0p tys t=false):P.underlying t=some (.int k):=by
 obtain ⟨l,d,b⟩:=Z0W h
 rw [b] at f
 have j:l=[]:=by simpa using f
 exact ((i t _ _ d).und j).1 k rfl
theorem Z12 (p:Z0e P tys) {t:TypeId} {e:Ty} (h:Z0A tys t=some (.slice e)) (f:Z0p tys t=false):∃ et l,P.underlying t=some (.slice et)/\Z0o tys et=some (e,l)/\(Z7j e=true->l=[]):=by
 obtain ⟨l,d,b⟩:=Z0W h
 rw [b] at f
 have q:l=[]:=by simpa using f
 obtain ⟨et,i,j,m⟩:=((p t _ _ d).und q).2.2.2.1 e rfl
 obtain ⟨l',k,n⟩:=Z0W j
 exact ⟨et,l',i,k,λr=>by have:=m r;rw [n] at this;simpa using this⟩
theorem Z8M (A:Z0e P tys) (I:Inv W0 M σ a w G xs) {p:BinOp} {t ty:TypeId} {x y:Operand} (i:o.op= .binOp p t x y ty) {u v:TVal} (j:σ.look x=some u) (l:σ.look y=some v) {r:Bool×TVal} (b:Z8Z tys t p u v=some r) (d:r.1=true):Z0P P σ a w G o (.val r.2):=by
 ·unfold Z8Z at b
  split at b
  ·rename_i k m _ B n _
   simp only [Option.some.injEq] at b
   subst b
   simp only [Bool.not_eq_true',decide_eq_false_iff_not] at d
   refine ⟨_,Z0B rfl ⟨rfl,rfl,rfl⟩,λw2=> ?_⟩
   rw [Z03 i]
   simp only [execOp,Z0R I j,Z0R I l]
   have:¬ (n<0):=d
   simp [eqGuard_at_int,binOp,Op.shift,this]
  ·rename_i k m _ B n _
   simp only [Option.some.injEq] at b
   subst b
   simp only [Bool.not_eq_true',decide_eq_false_iff_not] at d
   refine ⟨_,Z0B rfl ⟨rfl,rfl,rfl⟩,λw2=> ?_⟩
   rw [Z03 i]
   simp only [execOp,Z0R I j,Z0R I l]
   have:¬ (n<0):=d
   simp [eqGuard_at_int,binOp,Op.shift,this]
  ·rename_i k m _ B n _ _ _
   split at b
   ·rename_i E
    subst E
    obtain ⟨v,z,h⟩:=Z8K (P:=P) p k m n b d t x y
    refine ⟨v,z,λw2=> ?_⟩
    rw [Z03 i]
    simp only [execOp,Z0R I j,Z0R I l]
    have:=h w2
    simp only [Sem.run_bind] at this ⊢
    rw [this];rfl
   ·cases b
  ·rename_i m _ n _
   obtain ⟨v,z,h⟩:=Z8L (P:=P) p m n b d t x y
   refine ⟨v,z,λw2=> ?_⟩
   rw [Z03 i]
   simp only [execOp,Z24 I j,Z24 I l]
   have:=h w2
   simp only [Sem.run_bind] at this ⊢
   rw [this];rfl
  ·rename_i C _ D _
   split at b
   ·rename_i f
    simp only [Option.some.injEq] at b
    subst b
    have q:=Z7w A f.1 f.2
    refine ⟨_,Z0B rfl ⟨rfl,rfl,rfl⟩,λw2=> ?_⟩
    rw [Z03 i]
    simp only [execOp,Z23 I j,Z23 I l]
    simp only [eqGuard_at_bool,binOp,Sem.run_bind,Sem.run_pure,Result.andThen_ok,Z5y q]
   ·cases b
  ·rename_i C _ D _
   split at b
   ·rename_i f
    simp only [Option.some.injEq] at b
    subst b
    have q:=Z7w A f.1 f.2
    refine ⟨_,Z0B rfl ⟨rfl,rfl,rfl⟩,λw2=> ?_⟩
    rw [Z03 i]
    simp only [execOp,Z23 I j,Z23 I l]
    simp only [eqGuard_at_bool,binOp,Sem.run_bind,Sem.run_pure,Result.andThen_ok,Z5y q]
   ·cases b
  ·cases b
end
end Go.PI
namespace Go.PI
section
variable {W0:Base} {M:Nat->Prop} {σ:State} {a:Act} {w:World} {G:Ghost} {xs:List Nat} {P:Program} {tys:List (TypeId×Ty×List TypeId)} {o:Oper} {g:Bool} {tv:TV}
theorem Z8c (l:List Int) (r:ByteArray):l.foldl (λ(r:ByteArray) n=>r.push (UInt8.ofNat n.toNat)) r=⟨r.data++(l.map λn=>UInt8.ofNat n.toNat).toArray⟩:=by
 induction l generalizing r with
 | nil=>simp
 | cons n l b=>
  simp only [List.foldl_cons,b]
  congr 1
  simp [ByteArray.push]
theorem Z7E (I:Inv W0 M σ a w G xs) {x:Operand} {l:List Int} {tg:List Tag} (h:σ.look x=some ⟨.slice (.int .u8),false,l,tg⟩) {w2:World} (H:Z6e w G w2) :
  (a.eval x= .slice none 0 0/\l=[])\/∃ f cap,a.eval x= .slice f l.length cap/\(l=[]\/∃ b off,f=some ⟨b,off,none⟩/\∀ k (q:k<l.length),w2.cell? ((⟨b,off,none⟩:Addr).add k)=some (.int .u8 l[k])):=by
 obtain ⟨D,E⟩:=Z1n I h
 obtain ⟨t,f,cap,_,m,R,K⟩:=D
 rw [Z0r E] at m
 have Q:a.eval x= .slice f (List.length (α:=Int) l) cap:=by simpa using m
 right
 refine ⟨f,cap,Q,?_⟩
 rcases K with ⟨_,rfl,p,_⟩ | ⟨z,b,off,fps,j,i,r,_⟩ | ⟨z,_,p⟩
 ·exact .inl p
 ·cases r
 ·rcases p with p | ⟨b,off,j,n,F,J⟩
  ·exact .inl p
  ·refine .inr ⟨b,off,j,λk q=> ?_⟩
   obtain ⟨A,d,L⟩:=J k q
   simp only [size,Nat.mul_one] at d F
   have i:G.Al b:=by
    cases t with
    | S=>exact Ghost.St_Al I b n
    | N=>exact n
    | _=>cases z
   have:=H.1 b (Z0Y d) i _ _ _ (by have:k<List.length (α:=Int) l:=q;omega) d
   have y:=Z1Z this 0 (.int .u8 (List.get (α:=Int) l ⟨k,q⟩)) (by rw [L.1];rfl)
   have B:(⟨b,off+k,none⟩:Addr).add 0=⟨b,off+k,none⟩:=by simp [Addr.add]
   have C:(⟨b,off,none⟩:Addr).add k=⟨b,off+k,none⟩:=by unfold Addr.add;split<;>simp_all
   rw [B] at y
   rw [C]
   exact y
theorem Z7s (f:Z0e P tys) (I:Inv W0 M σ a w G xs) {s t:TypeId} {x:Operand} (C:o.op= .convert s t x) (h:Z0l tys σ o.op=some (g,tv)):Z5M P σ a w G o tv:=by
 rw [C] at h
 simp only [Z0l] at h
 split at h
 ·cases h
 rename_i d
 simp only [Bool.or_eq_true,not_or,Bool.not_eq_true] at d
 split at h
 ·rename_i k j R n _ A ht r
  simp only [Option.some.injEq,Prod.mk.injEq] at h
  obtain ⟨rfl,rfl⟩:=h
  have m:=Z0R I r
  refine ⟨.int j (j.wrap n),Z0B rfl ⟨rfl,rfl,rfl⟩,λw2 _=> ?_⟩
  rw [Z03 C]
  simp [execOp,m,convert,run_underlying (Z5q f A d.1),run_underlying (Z5q f ht d.2),Conv.intToInt]
 ·rename_i b _ A ht r
  simp only [Option.some.injEq,Prod.mk.injEq] at h
  obtain ⟨rfl,rfl⟩:=h
  have m:=Z24 I r
  refine ⟨.string b,Z0B rfl ⟨rfl,rfl,rfl⟩,λw2 _=> ?_⟩
  rw [Z03 C]
  simp [execOp,m,convert,run_underlying (Z1F f A d.1),run_underlying (Z1F f ht d.2)]
 ·rename_i l _ A ht r
  simp only [Option.some.injEq,Prod.mk.injEq] at h
  obtain ⟨rfl,rfl⟩:=h
  obtain ⟨et,T,D,F,H⟩:=Z12 f A d.1
  obtain rfl:=H rfl
  have B:P.underlying et=some (.int .u8):=((f et _ _ F).und rfl).1 .u8 rfl
  refine ⟨.string (Z3y l),Z0B rfl ⟨rfl,rfl,rfl⟩,λw2 L=> ?_⟩
  rw [Z03 C]
  rcases Z7E I r L with ⟨m,q⟩ | ⟨E,cap,m,p⟩
  ·subst q
   simp [execOp,m,convert,run_underlying D,run_underlying (Z1F f ht d.2),run_underlying B,Conv.bytesToString,Z3y]
   rfl
  ·rcases p with q | ⟨b,off,rfl,p⟩
   ·subst q
    cases E with
    | none=>
     simp [execOp,m,convert,run_underlying D,run_underlying (Z1F f ht d.2),run_underlying B,Conv.bytesToString,Z3y]
     rfl
    | some E=>
     have:=run_bytesToString (P:=P) w2 E 0 cap [] (by simp [loadCells,loadCellsFrom])
     simp only [List.foldl_nil] at this
     simp [execOp,m,convert,run_underlying D,run_underlying (Z1F f ht d.2),run_underlying B,this,Z3y]
     rfl
   ·have y:=run_loadCells (P:=P) w2 ⟨b,off,none⟩ l.length (λj=> .int .u8 (l.getD j 0)) (λj J=>by
     rw [p j J,List.getD_eq_getElem?_getD,List.getElem?_eq_getElem J];rfl)
    have z:((List.range l.length).map λj=>Value.int .u8 (l.getD j 0))=l.map (Value.int .u8):=by
     apply List.ext_getElem
     ·simp
     ·intro i Q K
      simp only [List.getElem_map,List.getElem_range]
      rw [List.getD_eq_getElem?_getD,List.getElem?_eq_getElem (by simpa using K)];rfl
    rw [z] at y
    have:=run_bytesToString (P:=P) w2 ⟨b,off,none⟩ l.length cap l y
    rw [Z8c] at this
    simp [execOp,m,convert,run_underlying D,run_underlying (Z1F f ht d.2),run_underlying B,this,Z3y]
 ·cases h
theorem Z3o (I:Inv W0 M σ a w G xs) {x:Operand} (l:o.op= .nilCheck x) (h:Z0l tys σ o.op=some (g,tv)):Z0P P σ a w G o tv:=by
 rw [l] at h
 simp only [Z0l] at h
 have d:=Z0w I x
 split at h
 ·rename_i p i
  rw [i] at d
  have d:=d (by simp)
  split at h
  ·rename_i n
   simp only [Option.some.injEq,Prod.mk.injEq] at h
   obtain ⟨rfl,rfl⟩:=h
   obtain ⟨u,q⟩:=Option.isSome_iff_exists.1 n
   obtain ⟨cs,b,m,k⟩:=d.2.2.2.some q
   refine ⟨a.eval x,d,λw2=> ?_⟩
   rw [Z03 l]
   simp [execOp,k]
  ·cases h
 ·rename_i v t i
  rw [i] at d
  have d:=d (by simp)
  simp only [Option.some.injEq,Prod.mk.injEq] at h
  obtain ⟨rfl,rfl⟩:=h
  have j:=d
  obtain ⟨_,_,b,off,cs,k,_⟩:=j
  refine ⟨a.eval x,d,λw2=> ?_⟩
  rw [Z03 l]
  simp [execOp,k]
 ·rename_i p i
  rw [i] at d
  have d:=d (by simp)
  split at h
  ·rename_i n
   simp only [Option.some.injEq,Prod.mk.injEq] at h
   obtain ⟨rfl,rfl⟩:=h
   obtain ⟨u,q⟩:=Option.isSome_iff_exists.1 n
   obtain ⟨cs,b,m,k⟩:=d.2.some q
   refine ⟨a.eval x,d,λw2=> ?_⟩
   rw [Z03 l]
   simp [execOp,k]
  ·cases h
 ·rename_i f z i
  rw [i] at d
  have d:=d (by simp)
  simp only [Option.some.injEq,Prod.mk.injEq] at h
  obtain ⟨rfl,rfl⟩:=h
  have j:=d
  obtain ⟨_,vs,k,_⟩:=j
  refine ⟨a.eval x,d,λw2=> ?_⟩
  rw [Z03 l]
  simp [execOp,k]
 ·rename_i r τ p i
  rw [i] at d
  have d:=d (by simp)
  simp only [Option.some.injEq,Prod.mk.injEq] at h
  obtain ⟨rfl,rfl⟩:=h
  have j:=d
  obtain ⟨_,_,b,y,A,k,_⟩:=j
  refine ⟨a.eval x,d,λw2=> ?_⟩
  rw [Z03 l]
  simp [execOp,k]
 ·rename_i f B v i
  rw [i] at d
  have d:=d (by simp)
  simp only [Option.some.injEq,Prod.mk.injEq] at h
  obtain ⟨rfl,rfl⟩:=h
  have j:=d
  obtain ⟨_,us,k,_⟩:=j
  refine ⟨a.eval x,d,λw2=> ?_⟩
  rw [Z03 l]
  simp [execOp,k]
 ·cases h
theorem Z7t (E:Z0e P tys) (I:Inv W0 M σ a w G xs) {c:Call} (q:o.op= .call c) (h:Z0l tys σ o.op=some (g,tv)):Z0P P σ a w G o tv:=by
 rw [q] at h
 simp only [Z0l] at h
 split at h
 ·rename_i x t d b i
  have p:c.args= #[x]:=by cases f:c.args;rw [f] at b;simp at b;rw [b]
  have r:c.argTypes= #[t]:=by cases f:c.argTypes;rw [f] at i;simp at i;rw [i]
  split at h
  ·rename_i s _ ht A
   split at h
   ·cases h
   rename_i j
   simp only [Option.some.injEq,Prod.mk.injEq] at h
   obtain ⟨rfl,rfl⟩:=h
   have B:=Z24 I A
   refine ⟨.int .i64 s.size,Z0B rfl ⟨rfl,rfl,rfl⟩,λw2=> ?_⟩
   rw [Z03 q]
   simp [execOp,resolve,d,p,r,B,invoke,builtin,Builtin.len_,run_underlying (Z1F E ht (by simpa using j)),goInt]
  ·rename_i K e l _ ht A
   split at h
   ·cases h
   rename_i j
   simp only [Option.some.injEq,Prod.mk.injEq] at h
   obtain ⟨rfl,rfl⟩:=h
   obtain ⟨J,cap,B,_⟩:=Z8l I A
   obtain ⟨et,L,F,_,_⟩:=Z12 E ht (by simpa using j)
   refine ⟨.int .i64 (List.length (α:=El e) l),Z0B rfl ⟨rfl,rfl,rfl⟩,λw2=> ?_⟩
   rw [Z03 q]
   simp [execOp,resolve,d,p,r,B,invoke,builtin,Builtin.len_,run_underlying F,goInt]
  ·cases h
 ·rename_i x y d b
  have p:c.args= #[x,y]:=by cases f:c.args;rw [f] at b;simp at b;rw [b]
  split at h
  ·rename_i k m _ H n _ C D
   split at h
   ·rename_i z
    subst z
    simp only [Option.some.injEq,Prod.mk.injEq] at h
    obtain ⟨rfl,rfl⟩:=h
    refine ⟨.int k (mxI m n),Z0B rfl ⟨rfl,rfl,rfl⟩,λw2=> ?_⟩
    rw [Z03 q]
    simp [execOp,resolve,d,p,Z0R I C,Z0R I D,invoke,builtin,Builtin.max_,Builtin.max2,mxI]
   ·cases h
  ·cases h
 ·rename_i x y d b
  have p:c.args= #[x,y]:=by cases f:c.args;rw [f] at b;simp at b;rw [b]
  split at h
  ·rename_i k m _ H n _ C D
   split at h
   ·rename_i z
    subst z
    simp only [Option.some.injEq,Prod.mk.injEq] at h
    obtain ⟨rfl,rfl⟩:=h
    refine ⟨.int k (mnI m n),Z0B rfl ⟨rfl,rfl,rfl⟩,λw2=> ?_⟩
    rw [Z03 q]
    simp [execOp,resolve,d,p,Z0R I C,Z0R I D,invoke,builtin,Builtin.min_,Builtin.min2,mnI]
   ·cases h
  ·cases h
 ·cases h
end
end Go.PI
namespace Go.PI
section
variable {W0:Base} {M:Nat->Prop} {σ:State} {a:Act} {w:World} {G:Ghost} {xs:List Nat} {P:Program} {tys:List (TypeId×Ty×List TypeId)} {o:Oper} {g:Bool} {tv:TV}
theorem Z3K (I:Inv W0 M σ a w G xs) {x:Operand} {v:TVal} {n:Int} (h:σ.look x=some v) (b:Z5k v=some n):∃ k,a.eval x= .int k n:=by
 unfold Z5k at b
 split at b
 ·cases b;exact ⟨_,Z0R I h⟩
 ·cases b;exact ⟨_,Z0R I h⟩
 ·cases b
theorem Z3L (I:Inv W0 M σ a w G xs) {x:Option Operand} {d n:Int} (h:Z5l σ x d=some n):(x.map a.eval=none/\n=d)\/∃ k,x.map a.eval=some (.int k n):=by
 unfold Z5l at h
 split at h
 ·cases h;exact .inl ⟨rfl,rfl⟩
 ·split at h
  ·rename_i o v f
   obtain ⟨k,b⟩:=Z3K I f h
   exact .inr ⟨k,by simp [b]⟩
  ·cases h
theorem Z68 {b:Bool} {len cap:Nat} {m f:Option Value} {i j:Int} (l:(m=none/\i=0)\/∃ k,m=some (.int k i)) (d:(f=none/\j=(len:Int))\/∃ k,f=some (.int k j))
  (y:0<=i) (z:i<=j) (A:j<=(len:Int)) (B:len<=cap) (w2:World):(Instr.sliceBounds b len cap m f none).run P w2= .ok (i.toNat,j.toNat,cap) w2:=by
 have n:0<=j/\j<=(cap:Int):=by omega
 have h:0<=i/\i<=((j.toNat:Nat):Int):=by omega
 have q:0<=j:=by omega
 have r:j<=(cap:Int):=by omega
 have p:i<=((j.toNat:Nat):Int):=by omega
 rcases l with ⟨rfl,rfl⟩ | ⟨k,rfl⟩<;>rcases d with ⟨rfl,rfl⟩ | ⟨C,rfl⟩
 ·simp [Instr.sliceBounds]
 ·simp only [Instr.sliceBounds,Instr.sliceBound,asIntOf,Sem.run_bind,Sem.run_pure,Result.andThen_ok]
  rw [if_pos n]
  simp
 ·have:0<=i/\i<=(len:Int):=by omega
  simp only [Instr.sliceBounds,Instr.sliceBound,asIntOf,Sem.run_bind,Sem.run_pure,Result.andThen_ok]
  rw [if_pos this]
  simp
 ·simp only [Instr.sliceBounds,Instr.sliceBound,asIntOf,Sem.run_bind,Sem.run_pure,Result.andThen_ok]
  rw [if_pos n]
  simp only [Sem.run_pure,Result.andThen_ok]
  rw [if_pos h]
  simp
theorem Z5j (b o n:Nat):(⟨b,o,none⟩:Addr).add n=⟨b,o+n,none⟩:=by unfold Addr.add;split<;>simp_all
theorem Z71 {i j:Int} {n:Nat} (h:Z87 i j n=true):0<=i/\i<=j/\j<=(n:Int):=by simpa [Z87] using h
theorem Z5m {i:Int} {n:Nat} (h:inb i n=true):0<=i/\i<(n:Int):=by simpa [inb] using h
theorem Z8k {x:Operand} {v:TVal} (h:σ.look x=some v):∀ t∈v.tg,t.own=false:=by
 unfold State.look at h
 split at h
 ·rename_i u b
  cases h
  unfold State.peek at b
  split at b
  ·split at b
   ·rename_i t k i
    split at b
    ·cases b
    ·rename_i f
     cases b
     intro t ht
     cases j:t.own with
     | false=>rfl
     | true=>exact absurd (List.any_eq_true.2 ⟨t,ht,j⟩) f
   ·rename_i t d
    exact absurd b (d v)
  all_goals first | (cases b;simp [Z0z];done) | cases b
 ·rename_i p ag b
  obtain ⟨u,_,rfl⟩:=Option.map_eq_some_iff.1 h
  intro t ht
  simp only [TVal.alias,List.mem_map] at ht
  obtain ⟨t',_,rfl⟩:=ht
  cases t'<;>rfl
 ·cases h
theorem Z6c (R:Z0e P tys) (I:Inv W0 M σ a w G xs) {t:TypeId} {x:Operand} {lo hi mx:Option Operand} (q:o.op= .slice t x lo hi mx) (h:Z0l tys σ o.op=some (g,tv)) (hg:g=true) :
  Z0P P σ a w G o tv:=by
 rw [q] at h
 cases mx with
 | some m=>simp [Z0l] at h
 | none=>
 simp only [Z0l] at h
 split at h
 ·rename_i s tg ht H
  split at h
  ·cases h
  rename_i r
  split at h
  ·rename_i i j y A
   simp only [Option.some.injEq,Prod.mk.injEq] at h
   obtain ⟨n,rfl⟩:=h
   rw [hg] at n
   obtain ⟨L,Q,B⟩:=Z71 n
   have hv:=Z24 I H
   refine ⟨.string (s.extract i.toNat j.toNat),Z0B rfl ⟨rfl,rfl,rfl⟩,λw2=> ?_⟩
   rw [Z03 q]
   have T:=Z68 (P:=P) (b:=false) (cap:=s.size) (Z3L I y) (Z3L I A) L Q B (Nat.le_refl _) w2
   simp only [execOp,hv,Instr.sliceAt,Instr.slice,Sem.run_bind,run_underlying (Z1F R ht (by simpa using r)),Result.andThen_ok,Option.map_none,Option.isSome_none,Bool.false_eq_true,if_false,Sem.run_pure,T]
  ·cases h
 ·rename_i f e l tg ht H
  split at h
  ·rename_i hc
   obtain ⟨rfl,r⟩:=hc
   split at h
   ·rename_i i j y A
    simp only [Option.some.injEq,Prod.mk.injEq] at h
    obtain ⟨n,rfl⟩:=h
    rw [hg] at n
    obtain ⟨L,Q,B⟩:=Z71 n
    have hr:Rp w G.F G.St G.Al (.slice f) tg (Z02 (a.eval x)) l []:=(Z1n I H).1
    have Z:Z0f false (a.eval x):=(Z1n I H).2
    obtain ⟨t',J,cap,rfl,D,X,hh⟩:=hr
    rw [Z0r Z] at D
    have hv:a.eval x= .slice J (List.length (α:=El f) l) cap:=by simpa using D
    obtain ⟨et,le,hu,V,_⟩:=Z12 R ht r
    obtain ⟨inf,z,E,aa,_⟩:=(R et _ _ V).info
    have d:(sub (α:=El f) l i j).length=j.toNat-i.toNat:=by
     unfold sub;simp;omega
    refine ⟨.slice (if cap=i.toNat then J else J.map (·.add (i.toNat * size f))) (j.toNat-i.toNat) (cap-i.toNat),⟨rfl,(show Rp w G.F G.St G.Al (.slice f) [t'] _ (sub (α:=El f) l i j) [] from ?_)⟩,λw2=> ?_⟩
    ·rw [Z0r rfl]
     rw [<-d]
     refine ⟨t',_,_,rfl,rfl,by rw [d];omega,?_⟩
     have p:t'.own=false:=by exact Z8k (σ:=σ) H t' (by simp)
     refine .inr (.inr ⟨p,rfl,?_⟩)
     rcases hh with ⟨q,_⟩ | ⟨q,_⟩ | ⟨_,_,hx⟩
     ·rw [p] at q;cases q
     ·rw [p] at q;cases q
     ·by_cases he:j.toNat-i.toNat=0
      ·left
       exact List.length_eq_zero_iff.1 (by rw [d];exact he)
      ·rcases hx with hx | ⟨b,off,rfl,ab,hF,W⟩
       ·rw [hx] at B;simp at B;omega
       ·right
        have U:¬ cap=i.toNat:=by omega
        refine ⟨b,off+i.toNat * size f,by rw [if_neg U];simp [Z5j],ab,?_,λk hk=> ?_⟩
        ·rw [d]
         have:i.toNat * size f+(j.toNat-i.toNat) * size f<=List.length (α:=El f) l * size f:=by
          rw [<-Nat.add_mul];exact Nat.mul_le_mul_right _ (by omega)
         omega
        ·rw [d] at hk
         obtain ⟨K,C,Y⟩:=W (i.toNat+k) (by omega)
         refine ⟨K,?_,?_⟩
         ·rw [Nat.add_mul] at C
          rw [Nat.add_assoc];exact C
         ·have:List.get (α:=El f) (sub (α:=El f) l i j) ⟨k,by rw [d];exact hk⟩=List.get (α:=El f) l ⟨i.toNat+k,by omega⟩:=by
           unfold sub
           simp
          rw [this]
          exact Y
    ·rw [Z03 q]
     have T:=Z68 (P:=P) (b:=true) (cap:=cap) (Z3L I y) (Z3L I A) L Q B X w2
     simp only [execOp,hv,Instr.sliceAt,Instr.slice,Sem.run_bind,run_underlying hu,Result.andThen_ok,Option.map_none,Sem.run_pure,T,sizeOf,typeInfo,run_program,E,aa]
   ·cases h
  ·cases h
 ·cases h
end
end Go.PI
namespace Go.PI
theorem Z2G:(p q:List Step)->Z07 (p++q)=(Z07 p&&Z07 q)
 | [],q=>by simp [Z07]
 | .fst::p,q=>by simp [Z07,Z2G p q]
 | .snd::p,q=>by simp [Z07,Z2G p q]
 | .idx _::p,q=>by simp [Z07]
theorem Z2O:(n i:Nat)->Z07 (Z09 n i)=true
 | 0,_=>rfl
 | 1,_=>rfl
 | n+2,0=>rfl
 | n+2,i+1=>by simp only [Z09,Z07];exact Z2O (n+1) i
theorem Z4t {τ:Ty} {x:El τ} {tg:List Tag}:Z0b τ x tg []=some ⟨τ,false,x,tg⟩:=by cases τ<;>rfl
theorem Z33 {w:World}:{p q:List Step}->{τ:Ty}->{cs j:List Value}->{base d:Option (Nat×Nat)}->{x:El τ}->{tg:List Tag}->{u:TVal} ->
  Z00 w τ cs base p=some (j,d)->Z0b τ x tg p=some u->Z00 w τ cs base (p++q)=Z00 w u.τ j d q
 | [],q,τ,cs,j,base,d,x,tg,u,f,k=>by
  rw [Z4t] at k;cases k
  rw [Z0Q] at f;cases f;rfl
 | .fst::p,q,.pair a b,cs,j,base,d,x,tg,u,f,k=>Z33 (p:=p) (τ:=a) f k
 | .snd::p,q,.pair a b,cs,j,base,d,x,tg,u,f,k=>Z33 (p:=p) (τ:=b) f k
 | .idx i::p,q,.slice e,cs,j,base,d,x,tg,u,f,k=>by
  simp only [List.cons_append,Z00] at f ⊢
  split at f
  ·rename_i b o len cap
   split at f
   ·rename_i n
    split at f
    ·rename_i l m
     simp only [n,if_true]
     exact Z33 (p:=p) f k
    ·cases f
   ·cases f
  ·cases f
 | .fst::_,_,.int _,_,_,_,_,_,_,_,_,h=>by simp [Z0b] at h
 | .fst::_,_,.bool,_,_,_,_,_,_,_,_,h=>by simp [Z0b] at h
 | .fst::_,_,.str,_,_,_,_,_,_,_,_,h=>by simp [Z0b] at h
 | .fst::_,_,.unit,_,_,_,_,_,_,_,_,h=>by simp [Z0b] at h
 | .fst::_,_,.slice _,_,_,_,_,_,_,_,_,h=>by simp [Z0b] at h
 | .snd::_,_,.int _,_,_,_,_,_,_,_,_,h=>by simp [Z0b] at h
 | .snd::_,_,.bool,_,_,_,_,_,_,_,_,h=>by simp [Z0b] at h
 | .snd::_,_,.str,_,_,_,_,_,_,_,_,h=>by simp [Z0b] at h
 | .snd::_,_,.unit,_,_,_,_,_,_,_,_,h=>by simp [Z0b] at h
 | .snd::_,_,.slice _,_,_,_,_,_,_,_,_,h=>by simp [Z0b] at h
 | .idx _::_,_,.int _,_,_,_,_,_,_,_,_,h=>by simp [Z0b] at h
 | .idx _::_,_,.bool,_,_,_,_,_,_,_,_,h=>by simp [Z0b] at h
 | .idx _::_,_,.str,_,_,_,_,_,_,_,_,h=>by simp [Z0b] at h
 | .idx _::_,_,.unit,_,_,_,_,_,_,_,_,h=>by simp [Z0b] at h
 | .idx _::_,_,.pair _ _,_,_,_,_,_,_,_,_,h=>by simp [Z0b] at h
theorem Z46:{p:List Step}->{τ d:Ty}->Z0d τ p=some d->∀ q,Z0d τ (p++q)=Z0d d q
 | [],τ,d,h,q=>by rw [Z1C] at h;cases h;rfl
 | .fst::p,.pair a b,d,h,q=>Z46 (p:=p) (τ:=a) h q
 | .snd::p,.pair a b,d,h,q=>Z46 (p:=p) (τ:=b) h q
 | .idx _::_,.pair _ _,_,h,q=>by simp [Z0d] at h
 | s::_,.int _,_,h,q=>by cases s<;>simp [Z0d] at h
 | s::_,.bool,_,h,q=>by cases s<;>simp [Z0d] at h
 | s::_,.str,_,h,q=>by cases s<;>simp [Z0d] at h
 | s::_,.unit,_,h,q=>by cases s<;>simp [Z0d] at h
 | s::_,.slice _,_,h,q=>by cases s<;>simp [Z0d] at h
theorem Z43:{p:List Step}->{τ d:Ty}->Z0d τ p=some d->∀ q,Z0g τ (p++q)=Z0g τ p+Z0g d q
 | [],τ,d,h,q=>by rw [Z1C] at h;cases h;rw [Z4B];simp
 | .fst::p,.pair a b,d,h,q=>Z43 (p:=p) (τ:=a) h q
 | .snd::p,.pair a b,d,h,q=>by
  have:=Z43 (p:=p) (τ:=b) h q
  simp only [List.cons_append,Z0g,this,Nat.add_assoc]
 | .idx _::_,.pair _ _,_,h,q=>by simp [Z0d] at h
 | s::_,.int _,_,h,q=>by cases s<;>simp [Z0d] at h
 | s::_,.bool,_,h,q=>by cases s<;>simp [Z0d] at h
 | s::_,.str,_,h,q=>by cases s<;>simp [Z0d] at h
 | s::_,.unit,_,h,q=>by cases s<;>simp [Z0d] at h
 | s::_,.slice _,_,h,q=>by cases s<;>simp [Z0d] at h
theorem Z6Y {w:World} {b o n i m:Nat} {cs:List Value} (h:Z04 w b o n=some cs) (d:i+m<=n):Z04 w b (o+i) m=some ((cs.drop i).take m):=by
 unfold Z04 at *
 split at h
 ·split at h
  ·cases h
   rw [if_pos (by omega),List.drop_take,List.drop_drop,List.take_take]
   congr 2
   omega
  ·cases h
 ·cases h
theorem Z3a:{q:List Step}->{τ d:Ty}->{x:El τ}->{tg:List Tag}->Z0d τ q=some d->∃ u,Z0b τ x tg q=some u/\u.τ=d
 | [],τ,d,x,tg,h=>by rw [Z1C] at h;cases h;exact ⟨_,Z4t,rfl⟩
 | .fst::p,.pair a b,d,x,tg,h=>Z3a (q:=p) (τ:=a) h
 | .snd::p,.pair a b,d,x,tg,h=>Z3a (q:=p) (τ:=b) h
 | .idx _::_,.int _,_,_,_,h=>by simp [Z0d] at h
 | .idx _::_,.bool,_,_,_,h=>by simp [Z0d] at h
 | .idx _::_,.str,_,_,_,h=>by simp [Z0d] at h
 | .idx _::_,.unit,_,_,_,h=>by simp [Z0d] at h
 | .idx _::_,.slice _,_,_,_,h=>by simp [Z0d] at h
 | .idx _::_,.pair _ _,_,_,_,h=>by simp [Z0d] at h
 | .fst::_,.int _,_,_,_,h=>by simp [Z0d] at h
 | .fst::_,.bool,_,_,_,h=>by simp [Z0d] at h
 | .fst::_,.str,_,_,_,h=>by simp [Z0d] at h
 | .fst::_,.unit,_,_,_,h=>by simp [Z0d] at h
 | .fst::_,.slice _,_,_,_,h=>by simp [Z0d] at h
 | .snd::_,.int _,_,_,_,h=>by simp [Z0d] at h
 | .snd::_,.bool,_,_,_,h=>by simp [Z0d] at h
 | .snd::_,.str,_,_,_,h=>by simp [Z0d] at h
 | .snd::_,.unit,_,_,_,h=>by simp [Z0d] at h
 | .snd::_,.slice _,_,_,_,h=>by simp [Z0d] at h
section
variable {W0:Base} {M:Nat->Prop} {σ:State} {a:Act} {w:World} {G:Ghost} {xs:List Nat} {P:Program} {tys:List (TypeId×Ty×List TypeId)} {o:Oper} {g:Bool} {tv:TV}
theorem Z6G (d:Z0e P tys) {t:TypeId} {τ:Ty} {l:List TypeId} (h:Z0o tys t=some (τ,l)) (w2:World):(isAgg t).run P w2= .ok (!l.isEmpty) w2:=by
 cases l with
 | cons c l=>
  obtain ⟨y,r,_⟩:=(d t _ _ h).str (by simp)
  simp [isAgg,run_underlying r]
 | nil=>
  obtain ⟨f,i,j,m,n,p⟩:=(d t _ _ h).und rfl
  cases τ with
  | int k=>simp [isAgg,run_underlying (f k rfl)]
  | bool=>simp [isAgg,run_underlying (i rfl)]
  | str=>simp [isAgg,run_underlying (j rfl)]
  | unit=>exact absurd rfl n
  | slice e=>obtain ⟨et,q,_⟩:=m e rfl;simp [isAgg,run_underlying q]
  | pair a b=>exact absurd rfl (p a b)
theorem Z1J (p:Z0e P tys) {t:TypeId} {τ:Ty} {i:Nat} {q:List Step} (h:Z4b tys t i=some q) (ht:Z0A tys t=some τ) :
  ∃ k f j m b,P.underlying t=some (.struct k)/\k[i]? = some f/\f.offset=Z0g τ q/\Z0d τ q=some j/\Z0o tys f.type=some (j,m)/\P.info? f.type=some b/\b.size=size j/\size j≠0 /\
   Z07 q=true/\Z2w tys t i= !m.isEmpty:=by
 obtain ⟨l,d,I⟩:=Z0W ht
 unfold Z4b at h
 rw [d] at h
 simp only [] at h
 split at h
 ·rename_i r
  cases h
  have K:l≠[]:=by rintro rfl;simp at r
  obtain ⟨k,L,y,J,_⟩:=(p t _ _ d).str K
  obtain ⟨f,j,m,A,B,C,D,n,E,_⟩:=(J i r).out
  obtain ⟨b,z,F,H,_⟩:=(p _ _ _ n).info
  refine ⟨k,f,j,m,b,L,A,C,D,n,F,H,E,Z2O _ _,?_⟩
  unfold Z2w
  rw [d]
  simp only []
  rw [<-B]
  simp [Z0p,n]
 ·cases h
theorem Z0C.ext {p:Place} {u:TVal} {cs i:List Value} {base d:Option (Nat×Nat)} {q:List Step} (n:σ.getAt p=some u) (h:Z0C σ G a w p cs base)
  (r:Z00 w u.τ cs base q=some (i,d)):Z0C σ G a w { p with path:=p.path++q } i d:=by
 obtain ⟨c,m,j⟩:=Z0G n
 obtain ⟨τ,l,b,f,y,k⟩:=h
 have:τ=c.τ:=by rw [State.ct,m] at f;simpa using f.symm
 subst this
 refine ⟨c.τ,l,b,f,y,?_⟩
 rw [Z33 k j]
 exact r
theorem Z35 (m:Z0e P tys) {t:TypeId} {τ:Ty} {i:Nat} {q:List Step} (p:Z4b tys t i=some q) (ht:Z0A tys t=some τ) (b o:Nat) (w2:World) :
  (Instr.fieldAt t (.pointer (some ⟨b,o,none⟩)) i).run P w2= .ok (.pointer (some ⟨b,o+Z0g τ q,none⟩)) w2:=by
 obtain ⟨y,f,A,z,l,r,n,h,_,_,d,k,j,_⟩:=Z1J m p ht
 have:¬ (l.size=0):=by rw [k];exact j
 simp [Instr.fieldAt,run_underlying r,n,Instr.sureAddr,fieldPlace,sizeOf,typeInfo,d,this,Z5j,h]
theorem Z4X:{q:List Step}->{τ:Ty}->{x:El τ}->{tg:List Tag}->{u:TVal}->Z0b τ x tg q=some u->Z07 q=true->∀ t∈u.tg,t∈tg
 | [],τ,x,tg,u,h,_=>by rw [Z4t] at h;cases h;exact λt ht=>ht
 | .fst::p,.pair a b,x,tg,u,h,d=>λt ht=>List.mem_of_mem_take (Z4X (q:=p) (τ:=a) h d t ht)
 | .snd::p,.pair a b,x,tg,u,h,d=>λt ht=>List.mem_of_mem_drop (Z4X (q:=p) (τ:=b) h d t ht)
 | .idx _::_,_,_,_,_,_,d=>by simp [Z07] at d
 | .fst::_,.int _,_,_,_,h,_=>by simp [Z0b] at h
 | .fst::_,.bool,_,_,_,h,_=>by simp [Z0b] at h
 | .fst::_,.str,_,_,_,h,_=>by simp [Z0b] at h
 | .fst::_,.unit,_,_,_,h,_=>by simp [Z0b] at h
 | .fst::_,.slice _,_,_,_,h,_=>by simp [Z0b] at h
 | .snd::_,.int _,_,_,_,h,_=>by simp [Z0b] at h
 | .snd::_,.bool,_,_,_,h,_=>by simp [Z0b] at h
 | .snd::_,.str,_,_,_,h,_=>by simp [Z0b] at h
 | .snd::_,.unit,_,_,_,h,_=>by simp [Z0b] at h
 | .snd::_,.slice _,_,_,_,h,_=>by simp [Z0b] at h
theorem Z2V (E:Z0e P tys) (I:Inv W0 M σ a w G xs) {t:TypeId} {x:Operand} {i:Nat} (Z:o.op= .fieldAddr t x i) (h:Z0l tys σ o.op=some (g,tv)):Z0P P σ a w G o tv:=by
 rw [Z] at h
 simp only [Z0l] at h
 have H:=Z0w I x
 split at h
 ·rename_i q p C k
  rw [k] at H
  obtain ⟨_,hbx,J,R⟩:=H (by simp)
  split at h
  ·rename_i u U
   split at h
   ·rename_i ht
    simp only [Option.some.injEq,Prod.mk.injEq] at h
    obtain ⟨rfl,rfl⟩:=h
    obtain ⟨cs,b,B,V⟩:=R.some U
    obtain ⟨fs,f,τf,lf,W,D,hf,A,d,_,n,T,Q,m,_⟩:=Z1J E C ht
    obtain ⟨y,z⟩:=Z0U (w:=w) (cs:=cs) (base:=some b) d (Z1I I U B).1
    refine ⟨.pointer (some ⟨b.1,b.2+Z0g u.τ q,none⟩),⟨rfl,hbx,by simp only [Z2G,J,m,Bool.and_self],.inr ⟨_,_,B.ext U y,rfl⟩⟩,λw2=> ?_⟩
    rw [Z03 Z]
    simp only [execOp,V,Sem.run_bind,Z35 E C ht,Result.andThen_ok,Sem.run_pure]
   ·cases h
  ·cases h
 ·rename_i q p C k
  rw [k] at H
  obtain ⟨_,R⟩:=H (by simp)
  split at h
  ·rename_i u U
   split at h
   ·rename_i ht
    simp only [Option.some.injEq,Prod.mk.injEq] at h
    obtain ⟨rfl,rfl⟩:=h
    obtain ⟨cs,b,B,V⟩:=R.some U
    obtain ⟨fs,f,τf,lf,W,D,hf,A,d,_,n,T,Q,m,_⟩:=Z1J E C ht
    obtain ⟨y,z⟩:=Z0U (w:=w) (cs:=cs) (base:=some b) d (Z1I I U B).1
    refine ⟨.pointer (some ⟨b.1,b.2+Z0g u.τ q,none⟩),⟨rfl,.inr ⟨_,_,B.ext U y,rfl⟩⟩,λw2=> ?_⟩
    rw [Z03 Z]
    simp only [execOp,V,Sem.run_bind,Z35 E C ht,Result.andThen_ok,Sem.run_pure]
   ·cases h
  ·cases h
 ·rename_i q v tg C k
  rw [k] at H
  obtain ⟨_,hto,b,off,cs,V,j,htb,hF,hN,hr⟩:=H (by simp)
  split at h
  ·rename_i ht
   obtain ⟨u,K,he⟩:=Option.map_eq_some_iff.1 h
   simp only [Prod.mk.injEq] at he
   obtain ⟨rfl,rfl⟩:=he
   obtain ⟨fs,f,τf,lf,W,D,hf,A,d,_,n,T,Q,m,_⟩:=Z1J E C ht
   obtain ⟨y,z⟩:=Z0U (w:=w) (cs:=cs) (base:=(none:Option (Nat×Nat))) d hr.len.1
   obtain ⟨u',aa,ab⟩:=Z3a (x:=v.x) (tg:=v.tg) d
   rw [K] at aa
   cases aa
   obtain ⟨X,hru,hfp⟩:=hr.get y K
   have Y:X=[]:=by cases X with | nil=>rfl | cons c l=>exact absurd (hfp c (by simp)) (by simp)
   subst Y
   refine ⟨.pointer (some ⟨b,off+Z0g v.τ q,none⟩),⟨rfl,hto,b,off+Z0g v.τ q,_,rfl,?_,htb,by rw [ab];omega,λhn=> ?_,hru⟩,λw2=> ?_⟩
   ·rw [ab];exact Z30 j z
   ·have:=hN hn
    intro t' ht'
    exact this t' (Z4X K m t' ht')
   ·rw [Z03 Z]
    simp only [execOp,V,Sem.run_bind,Z35 E C ht,Result.andThen_ok,Sem.run_pure]
  ·cases h
 ·rename_i q r τr p C k
  rw [k] at H
  obtain ⟨_,J,b,off,τ2,V,d,hlr,j,hSt,hF⟩:=H (by simp)
  split at h
  ·rename_i ht
   simp only [Option.some.injEq,Prod.mk.injEq] at h
   obtain ⟨rfl,rfl⟩:=h
   rw [d] at ht
   obtain ⟨fs,f,τf,lf,W,D,hf,A,F,_,n,T,Q,m,_⟩:=Z1J E C ht
   have L:=Z1z j
   obtain ⟨_,z⟩:=Z0U (w:=w) (cs:=((Z02 (a.tmps.getD r undef)).drop (Z0g τr p)).take (size τ2)) (base:=none) F L
   refine ⟨.pointer (some ⟨b,off+Z0g τ2 q,none⟩),⟨rfl,by simp only [Z2G,J,m,Bool.and_self],b,off+Z0g τ2 q,τf,rfl,(Z46 d q).trans F,hlr,?_,hSt,by omega⟩,λw2=> ?_⟩
   ·rw [Z6Y j z,Z43 d q,List.drop_take,List.take_take,List.drop_drop]
    congr 2
    omega
   ·rw [Z03 Z]
    simp only [execOp,V,Sem.run_bind,Z35 E C ht,Result.andThen_ok,Sem.run_pure]
  ·cases h
 ·cases h
end
end Go.PI
namespace Go.PI
theorem Z4M (cs:Array Value) (i n:Nat):(cs.extract i (i+n)).toList=(cs.toList.drop i).take n:=by
 simp [Array.toList_extract,List.extract_eq_take_drop]
section
variable {W0:Base} {M:Nat->Prop} {σ:State} {a:Act} {w:World} {G:Ghost} {xs:List Nat} {P:Program} {tys:List (TypeId×Ty×List TypeId)} {o:Oper} {g:Bool} {tv:TV}
theorem Z1R (f:Z0e P tys) {t:TypeId} {τ:Ty} (h:Z0o tys t=some (τ,[])):size τ=1:=by
 obtain ⟨_,_,_,_,b,d⟩:=(f t _ _ h).und rfl
 cases τ<;>first | rfl | (exact absurd rfl b) | (exact absurd rfl (d _ _))
theorem Z2T (b:Z0e P tys) {t:TypeId} {τ:Ty} {l:List TypeId} (h:Z0o tys t=some (τ,l)) {cs:Array Value} {off:Nat} (m:off+size τ<=cs.size) (w2:World) :
  (part t cs off).run P w2= .ok (Z0L (!l.isEmpty) ((cs.toList.drop off).take (size τ))) w2:=by
 obtain ⟨k,z,i,j,_⟩:=(b t _ _ h).info
 cases l with
 | cons c l=>
  simp only [part,Sem.run_bind,Z6G b h,Result.andThen_ok,List.isEmpty_cons,Bool.not_false,if_true,sizeOf,typeInfo,run_program,i,Sem.run_pure,j,Z0L]
  congr 2
  rw [<-Array.toList_inj]
  simp [Z4M]
 | nil=>
  have d:=Z1R b h
  simp only [part,Sem.run_bind,Z6G b h,Result.andThen_ok,List.isEmpty_nil,Bool.not_true,Bool.false_eq_true,if_false,Z0L]
  have:off<cs.size:=by omega
  rw [Array.getElem?_eq_getElem this]
  simp only [Sem.run_pure]
  congr 1
  rw [d]
  have f:off<cs.toList.length:=by simpa using this
  rw [List.drop_eq_getElem_cons f]
  simp
theorem Z6a (F:Z0e P tys) (I:Inv W0 M σ a w G xs) {t:TypeId} {x:Operand} {i:Nat} (ho:o.op= .field t x i) (h:Z0l tys σ o.op=some (g,tv)):Z0P P σ a w G o tv:=by
 rw [ho] at h
 simp only [Z0l] at h
 have Y:=Z0w I x
 split at h
 ·rename_i q p hq E
  rw [E] at Y
  obtain ⟨_,j⟩:=Y (by simp)
  split at h
  ·rename_i u hu
   split at h
   ·rename_i ht
    obtain ⟨tv',hrt,K⟩:=Option.map_eq_some_iff.1 h
    simp only [Prod.mk.injEq] at K
    obtain ⟨rfl,rfl⟩:=K
    have j:∃ cs base,Z0C σ G a w p cs base/\Z02 (a.eval x)=cs/\Z0f true (a.eval x):=by
     rcases j with hn | j
     ·obtain ⟨c,hc,_⟩:=Z0G hu
      rw [State.ct,hc] at hn;cases hn
     ·exact j
    obtain ⟨cs,base,j,hvc,b,W⟩:=j
    obtain ⟨fs,f,X,lf,inf,r,B,n,z,k,R,hsz,hne,hqf,d⟩:=Z1J F hq ht
    obtain ⟨C,T⟩:=Z1I I hu j
    obtain ⟨D,hle⟩:=Z0U (w:=w) (cs:=cs) (base:=base) z C
    have A:cs=b.toList:=by rw [<-hvc,W];simp [Z02,Value.cells]
    have J:b.size=size u.τ:=by rw [<-C,A];simp
    have m:=Z1e (ag:=Z2w tys t i) (cs:=(cs.drop (Z0g u.τ q)).take (size X)) (λc hc=>T c (List.mem_of_mem_drop (List.mem_of_mem_take hc))) (λB=>by
     rw [d] at B
     have hl:lf=[]:=by simpa using B
     subst hl
     have:=Z1R F k
     simp;omega)
    refine ⟨Z0L (Z2w tys t i) ((cs.drop (Z0g u.τ q)).take (size X)),Z2y I hrt (j.ext hu D) m.1 m.2,λw2=> ?_⟩
    rw [Z03 ho]
    simp only [execOp,W,Instr.field,Sem.run_bind,run_underlying r,B,asAgg,Sem.run_pure,Result.andThen_ok,n,Z2T F k (cs:=b) (off:=Z0g u.τ q) (by omega) w2,d,A]
   ·cases h
  ·cases h
 ·rename_i q τ y tg hq E
  rw [E] at Y
  obtain ⟨⟨b,W⟩,Z⟩:=Y (by simp)
  split at h
  ·rename_i ht
   obtain ⟨u,Q,K⟩:=Option.map_eq_some_iff.1 h
   simp only [Prod.mk.injEq] at K
   obtain ⟨rfl,rfl⟩:=K
   obtain ⟨fs,f,X,lf,inf,r,B,n,z,k,R,hsz,hne,hqf,d⟩:=Z1J F hq ht
   have A:Z02 (a.eval x)=b.toList:=by rw [W];simp [Z02,Value.cells]
   rw [A] at Z
   obtain ⟨D,hle⟩:=Z0U (w:=w) (cs:=b.toList) (base:=(none:Option (Nat×Nat))) z Z.len.1
   obtain ⟨u',V,hut⟩:=Z3a (x:=y) (tg:=tg) z
   rw [Q] at V
   cases V
   obtain ⟨H,U,hfp⟩:=Z.get D Q
   have L:H=[]:=by cases H with | nil=>rfl | cons c l=>exact absurd (hfp c (by simp)) (by simp)
   subst L
   have J:b.size=size τ:=by have:=Z.len.1;simpa using this
   have m:=Z1e (ag:=Z2w tys t i) (cs:=(b.toList.drop (Z0g τ q)).take (size X)) U.ones (λB=>by
     rw [d] at B
     have hl:lf=[]:=by simpa using B
     subst hl
     have:=Z1R F k
     simp;omega)
   refine ⟨Z0L (Z2w tys t i) ((b.toList.drop (Z0g τ q)).take (size X)),⟨m.2,by rw [m.1];exact U⟩,λw2=> ?_⟩
   rw [Z03 ho]
   simp only [execOp,W,Instr.field,Sem.run_bind,run_underlying r,B,asAgg,Sem.run_pure,Result.andThen_ok,n,Z2T F k (cs:=b) (off:=Z0g τ q) (by omega) w2,d]
  ·cases h
 ·cases h
theorem Z5z (l:Z0e P tys) {t:TypeId} {e:Ty} (ht:Z0A tys t=some (.slice e)) (f:Z0p tys t=false) {b off len cap:Nat} {k:IntKind} {n:Int} (h:inb n len=true) (w2:World) :
  (Instr.indexAt t (.slice (some ⟨b,off,none⟩) len cap) (.int k n)).run P w2= .ok (.pointer (some ⟨b,off+n.toNat * size e,none⟩)) w2:=by
 obtain ⟨et,q,m,i,_⟩:=Z12 l ht f
 obtain ⟨p,z,d,j,_⟩:=(l et _ _ i).info
 simp only [Instr.indexAt,asIntOf,Sem.run_bind,Sem.run_pure,Result.andThen_ok,run_underlying m,if_pos (Z5m h),sizeOf,typeInfo,run_program,d,j,Z5j]
theorem Z2W (hT:Z0e P tys) (I:Inv W0 M σ a w G xs) {t:TypeId} {x i:Operand} (Y:o.op= .indexAddr t x i) (h:Z0l tys σ o.op=some (g,tv)) (hg:g=true):Z0P P σ a w G o tv:=by
 rw [Y] at h
 simp only [Z0l] at h
 have T:=Z0w I x
 split at h
 ·rename_i f p nv ht E D
  rw [E] at T
  obtain ⟨_,m⟩:=T (by simp)
  split at h
  ·rename_i e ag' l tg n hu K
   split at h
   ·rename_i L
    obtain ⟨rfl,C⟩:=L
    simp only [Option.some.injEq,Prod.mk.injEq] at h
    obtain ⟨r,rfl⟩:=h
    rw [hg] at r
    obtain ⟨h0,h1⟩:=Z5m r
    have m:∃ cs base,Z0C σ G a w p cs base/\Z02 (a.eval x)=cs/\Z0f false (a.eval x):=by
     rcases m with K | m
     ·obtain ⟨c,L,_⟩:=Z0G hu
      rw [State.ct,L] at K;cases K
     ·exact m
    obtain ⟨cs,base,m,J,B⟩:=m
    obtain ⟨fp,H⟩:=Z2t I hu m
    have H:Rp w G.F G.St G.Al (.slice f) tg cs l fp:=H
    obtain ⟨t',R,cap,rfl,z,X,V⟩:=H
    have hv:a.eval x= .slice R (List.length (α:=El f) l) cap:=by
     rw [Z0r B] at J
     rw [z] at J
     simpa using J
    obtain ⟨k,W⟩:=Z3K I D K
    have d:n.toNat<List.length (α:=El f) l:=by omega
    have U:∃ b off,R=some ⟨b,off,none⟩/\∃ j,Z04 w b (off+n.toNat * size f) (size f)=some j:=by
     rcases V with ⟨_,_,y,_⟩ | ⟨_,b,off,fps,rfl,_,_,_,_,_,A⟩ | ⟨_,_,y⟩
     ·rw [y] at d;simp at d
     ·obtain ⟨j,q,_⟩:=A n.toNat d
      exact ⟨b,off,rfl,j,q⟩
     ·rcases y with y | ⟨b,off,rfl,_,_,A⟩
      ·rw [y] at d;simp at d
      ·obtain ⟨j,q,_⟩:=A n.toNat d
       exact ⟨b,off,rfl,j,q⟩
    obtain ⟨b,off,rfl,j,q⟩:=U
    refine ⟨.pointer (some ⟨b,off+n.toNat * size f,none⟩),⟨rfl,.inr ⟨j,(b,off+n.toNat * size f),m.ext hu ?_,rfl⟩⟩,λw2=> ?_⟩
    ·rw [z]
     simp only [Z00,d,if_true,q,Z0Q]
    ·rw [Z03 Y]
     simp only [execOp,hv,W,Sem.run_bind,Z5z hT ht C r,Result.andThen_ok,Sem.run_pure]
   ·cases h
  ·cases h
 ·rename_i f e l tg nv ht E D
  rw [E] at T
  split at h
  ·rename_i n K
   split at h
   ·rename_i L
    obtain ⟨rfl,C⟩:=L
    simp only [Option.some.injEq,Prod.mk.injEq] at h
    obtain ⟨r,rfl⟩:=h
    rw [hg] at r
    obtain ⟨h0,h1⟩:=Z5m r
    obtain ⟨B,H⟩:=T (by simp)
    have H:Rp w G.F G.St G.Al (.slice f) tg (Z02 (a.eval x)) l []:=H
    obtain ⟨t',R,cap,rfl,z,X,V⟩:=H
    have hv:a.eval x= .slice R (List.length (α:=El f) l) cap:=by
     have B:Z0f false (a.eval x):=B
     rw [Z0r B] at z
     simpa using z
    obtain ⟨k,W⟩:=Z3K I D K
    have d:n.toNat<List.length (α:=El f) l:=by omega
    rcases V with ⟨_,_,y,_⟩ | ⟨_,b,off,fps,_,_,y,_⟩ | ⟨Q,_,y⟩
    ·rw [y] at d;simp at d
    ·cases y
    ·rcases y with y | ⟨b,off,rfl,ab,hF,A⟩
     ·rw [y] at d;simp at d
     ·obtain ⟨j,q,Z⟩:=A n.toNat d
      refine ⟨.pointer (some ⟨b,off+n.toNat * size f,none⟩),⟨rfl,Q,b,off+n.toNat * size f,j,rfl,q,ab,?_,?_,?_⟩,λw2=> ?_⟩
      ·have:(n.toNat+1) * size f<=List.length (α:=El f) l * size f:=Nat.mul_le_mul_right _ d
       rw [Nat.add_mul,Nat.one_mul] at this
       show off+n.toNat * size f+size f<=_
       omega
      ·intro hN t2 aa
       obtain ⟨_,rfl⟩:=List.mem_replicate.1 aa
       simp only [List.headD_cons] at hN ⊢
       cases t'<;>simp_all [Tag.isN,Tag.inner,Tag.own]
      ·have:List.getD (α:=El f) l n.toNat (zero f)=List.get (α:=El f) l ⟨n.toNat,d⟩:=Z4c _ _ _ _
       show Rp w G.F G.St G.Al f _ j (List.getD (α:=El f) l n.toNat (zero f)) []
       rw [this]
       exact Z
      ·rw [Z03 Y]
       simp only [execOp,hv,W,Sem.run_bind,Z5z hT ht C r,Result.andThen_ok,Sem.run_pure]
   ·cases h
  ·cases h
 ·cases h
theorem Z6b (q:Z0e P tys) (I:Inv W0 M σ a w G xs) {t:TypeId} {x i:Operand} (m:o.op= .index t x i) (h:Z0l tys σ o.op=some (g,tv)) (r:g=true):Z0P P σ a w G o tv:=by
 rw [m] at h
 simp only [Z0l] at h
 split at h
 ·rename_i s tg D ht z l
  split at h
  ·rename_i n A
   split at h
   ·cases h
   rename_i j
   simp only [Option.some.injEq,Prod.mk.injEq] at h
   obtain ⟨d,rfl⟩:=h
   rw [r] at d
   obtain ⟨p,C⟩:=Z5m d
   obtain ⟨k,y⟩:=Z3K I l A
   have B:=Z24 I z
   refine ⟨.int .u8 (bt s n),Z0B rfl ⟨rfl,rfl,rfl⟩,λw2=> ?_⟩
   rw [Z03 m]
   have f:n.toNat<s.size:=by omega
   have b:s[n.toNat]? = some s[n.toNat]:=by simp [f]
   simp only [execOp,B,y,Instr.index,asIntOf,Sem.run_bind,Sem.run_pure,Result.andThen_ok,run_underlying (Z1F q ht (by simpa using j)),if_pos p,b]
   congr 3
   unfold bt
   congr 1
   have:n.toNat<s.data.toList.length:=by simpa using f
   rw [Z4c _ _ _ this]
   rfl
  ·cases h
 ·cases h
theorem Z6K:{ags:List Bool}->{τ:Ty}->{vs:List Value}->{i:Nat}->{F:Nat->Nat}->{St Al:Nat->Prop}->{w:World}->{x:El τ}->{tg:List Tag}->{fp:List Nat}->Z1b τ ags vs->i<ags.length ->
  ∃ v,vs[i]? = some v/\Z0f (Z0v false ags i) v/\∃ d,Z00 w τ (vs.flatMap Z02) none (Z09 ags.length i)=some (Z02 v,d)
 | [],τ,vs,i,_,_,_,w,_,_,_,h,f=>by simp at f
 | [ag],τ,vs,i,_,_,_,w,_,_,_,h,f=>by
  have:i=0:=by simpa using f
  subst this
  match vs,h with
  | [v],h=>
   have h:Z0f ag v/\(Z02 v).length=size τ:=by cases τ<;>exact h
   exact ⟨v,rfl,h.1,none,by simp [Z09,Z0Q]⟩
  | [],h=>cases τ<;>exact h.elim
  | _::_::_,h=>cases τ<;>exact h.elim
 | ag::j::ags,τ,vs,i,F,St,Al,w,x,tg,fp,h,f=>by
  cases τ with
  | pair a b=>
   cases vs with
   | nil=>exact h.elim
   | cons v vs=>
   obtain ⟨l,k,m⟩:Z0f ag v/\(Z02 v).length=size a/\Z1b b (j::ags) vs:=by
    cases vs<;>exact h
   cases i with
   | zero=>
    refine ⟨v,rfl,l,none,?_⟩
    simp only [List.length_cons,Z09,Z00,List.flatMap_cons,Z0Q]
    rw [<-k,List.take_left']
    rfl
   | succ i=>
    obtain ⟨r,n,p,d,q⟩:=Z6K (w:=w) (x:=zero b) (tg:=[]) (fp:=[]) (F:=F) (St:=St) (Al:=Al) m (i:=i) (by simpa using f)
    refine ⟨r,by simpa using n,p,d,?_⟩
    simp only [List.length_cons,Z09,Z00,List.flatMap_cons,Option.map_none]
    rw [<-k,List.drop_left']
    ·exact q
    ·rfl
  | _=>exact h.elim
theorem Z1b.ones:{ags:List Bool}->{τ:Ty}->{vs:List Value}->Z1b τ ags vs->∀ v∈vs,Z02 v=v.cells.toList
 | [],τ,vs,h=>by cases τ<;>cases vs<;>exact h.elim
 | [ag],τ,vs,h=>by
  match vs,h with
  | [v],h=>
   have h:Z0f ag v/\(Z02 v).length=size τ:=by cases τ<;>exact h
   intro u d
   simp only [List.mem_singleton] at d
   subst d
   exact h.1.cells
  | [],h=>cases τ<;>exact h.elim
  | _::_::_,h=>cases τ<;>exact h.elim
 | ag::f::ags,τ,vs,h=>by
  cases τ with
  | pair a b=>
   cases vs with
   | nil=>exact h.elim
   | cons v vs=>
   obtain ⟨i,k,j⟩:Z0f ag v/\(Z02 v).length=size a/\Z1b b (f::ags) vs:=by
    cases vs<;>exact h
   intro u d
   rcases List.mem_cons.1 d with rfl | d
   ·exact i.cells
   ·exact Z1b.ones j u d
  | _=>exact h.elim
theorem Z0V {i:Nat} (h:σ.slot i≠ .dead):i<σ.slots.length:=by
 rcases Nat.lt_or_ge i σ.slots.length with b | b
 ·exact b
 ·exact absurd (Z2c (d:=TV.dead) σ.slots i b) h
theorem Z5d (I:Inv W0 M σ a w G xs) {x:Operand} {i:Nat} (J:o.op= .extract x i) (h:Z0l tys σ o.op=some (g,tv)):Z0P P σ a w G o tv:=by
 rw [J] at h
 cases x with
 | tmp t=>
  have f:∀ {t':Nat} {ags:List Bool} {v:TVal},σ.content ⟨false,t',[]⟩=some v->Z08 G a w ⟨false,t',[]⟩=some (Z02 (a.tmps.getD t undef),none)->(∃ vs,a.tmps.getD t undef= .tuple vs/\Z1b v.τ ags vs.toList) ->
    (if i<ags.length then (Z34 σ ⟨false,t',Z09 ags.length i⟩ (Z0v false ags i)).map λtv=>(true,tv) else none)=some (g,tv)->Z0P P σ a w G o tv:=by
   intro t' ags v n k l h
   split at h
   ·rename_i R
    obtain ⟨E,d,H⟩:=Option.map_eq_some_iff.1 h
    simp only [Prod.mk.injEq] at H
    obtain ⟨rfl,rfl⟩:=H
    obtain ⟨vs,m,p⟩:=l
    obtain ⟨u,q,A,j,B⟩:=Z6K (w:=w) (x:=v.x) (tg:=v.tg) (fp:=[]) (F:=G.F) (St:=G.St) (Al:=G.Al) p R
    have D:Z02 (a.tmps.getD t undef)=vs.toList.flatMap Z02:=by
     rw [m]
     simp only [Z02]
     have:=p.ones
     generalize vs.toList=L at this
     induction L with
     | nil=>rfl
     | cons y L U=>
      simp only [List.flatMap_cons]
      rw [U (λz T=>this z (List.mem_cons_of_mem _ T)),this y (by simp)]
    refine ⟨u,Z2y I d (cs:=Z02 u) (base:=j) ⟨v.τ,Z02 (a.tmps.getD t undef),none,?_,k,?_⟩ rfl A,λw2=> ?_⟩
    ·show (σ.content ⟨false,t',[]⟩).map (·.τ)=_
     rw [n];rfl
    ·rw [D];exact B
    ·rw [Z03 J]
     have C:a.eval (.tmp t)= .tuple vs:=m
     have r:vs[i]? = some u:=by rw [<-q];simp
     simp only [execOp,C,Instr.extract,r,Sem.run_bind,Sem.run_pure,Result.andThen_ok]
   ·cases h
  simp only [Z0l] at h
  split at h
  ·rename_i v ags b
   have l:=I.slot t (Z0V (by rw [b];simp))
   rw [b] at l
   exact f (v:=v) (by simp [State.content,b]) rfl l.1 h
  ·rename_i t' ags b
   have l:=I.slot t (Z0V (by rw [b];simp))
   rw [b] at l
   have Q:∃ v,σ.content ⟨false,t',[]⟩=some v:=by
    split at h
    ·obtain ⟨E,d,_⟩:=Option.map_eq_some_iff.1 h
     unfold Z34 at d
     split at d
     ·rename_i u K
      unfold State.getAt at K
      obtain ⟨v,m,_⟩:=Option.bind_eq_some_iff.1 K
      exact ⟨v,m⟩
     ·cases d
    ·cases h
   obtain ⟨v,m⟩:=Q
   obtain ⟨q,vs,A,B⟩:=l.2 v.τ (by show (σ.content ⟨false,t',[]⟩).map (·.τ)=_;rw [m];rfl)
   exact f m q ⟨vs,A,B⟩ h
  ·cases h
 | _=>simp [Z0l] at h
theorem Z6X (I:Inv W0 M σ a w G xs):(b:List Operand)->{l:List Place}->(b.map σ.peek).foldr (λtv j=>match tv,j with | .ptr p,some l=>some (p::l) | _,_=>none) (some [])=some l ->
  b.length=l.length/\∀ i (h:i<l.length),l[i].box=true/\Z07 l[i].path=true/\Z0x σ G a w l[i] ((b.map a.eval).getD i undef)
 | [],l,h=>by
  simp only [List.map_nil,List.foldr_nil,Option.some.injEq] at h
  subst h
  exact ⟨rfl,λi k=>absurd k (by simp)⟩
 | c::b,l,h=>by
  simp only [List.map_cons,List.foldr_cons] at h
  split at h
  ·rename_i p l' f d
   cases h
   obtain ⟨n,q⟩:=Z6X I b d
   have m:=Z0w I c (by rw [f];simp)
   rw [f] at m
   refine ⟨by simp [n],λi k=> ?_⟩
   cases i with
   | zero=>exact m.2
   | succ i=>exact q i (by simpa using k)
  ·cases h
theorem Z4K (I:Inv W0 M σ a w G xs) {f:Fn} {first b:Array Operand} (m:o.op= .makeFunc f first b) (h:Z0l tys σ o.op=some (g,tv)):Z0P P σ a w G o tv:=by
 rw [m] at h
 cases f with
 | func f=>
  simp only [Z0l] at h
  split at h
  ·rename_i k
   split at h
   ·rename_i l r
    simp only [Option.some.injEq,Prod.mk.injEq] at h
    obtain ⟨rfl,rfl⟩:=h
    obtain ⟨n,p⟩:=Z6X I _ r
    have d:first= #[]:=by simpa using k
    refine ⟨.func (.func f) #[] (b.map a.eval),⟨rfl,b.map a.eval,rfl,by simpa using n,λi q=> ?_⟩,λw2=> ?_⟩
    ·have:=p i q
     have j:(b.map a.eval).getD i undef=(b.toList.map a.eval).getD i undef:=by
      rw [<-Array.toList_map,Array.getD_eq_getD_getElem?,List.getD_eq_getElem?_getD,Array.getElem?_toList]
     rw [j];exact this
    ·rw [Z03 m]
     simp only [execOp,d,Instr.makeFunc,Sem.run_bind,Sem.run_pure,Result.andThen_ok]
     simp
   ·cases h
  ·cases h
 | _=>simp [Z0l] at h
end
end Go.PI
namespace Go.PI
theorem Z5f {τ d:Ty} (h:Z0d τ [.fst]=some d):∃ b,τ= .pair d b:=by
 cases τ with
 | pair a b=>simp only [Z0d,Option.some.injEq] at h;subst h;exact ⟨b,rfl⟩
 | _=>simp [Z0d] at h
theorem Z8R {τ d:Ty} {p:List Step} (h:Z0d τ (.snd::p)=some d):∃ a b,τ= .pair a b/\Z0d b p=some d:=by
 cases τ with
 | pair a b=>exact ⟨a,b,rfl,by simpa [Z0d] using h⟩
 | _=>simp [Z0d] at h
section
variable {W0:Base} {M:Nat->Prop} {σ:State} {a:Act} {w:World} {G:Ghost} {xs:List Nat} {P:Program} {tys:List (TypeId×Ty×List TypeId)} {o:Oper} {g:Bool} {tv:TV}
variable {F:Nat->Nat} {St Al:Nat->Prop}
theorem Z5S {n:Nat} {t:TypeId} (h:Z3Y tys n t=true):∃ m τ l,n=m+1/\Z0o tys t=some (τ,l)/\((l=[]/\((∃ k,τ= .int k)\/τ= .bool\/τ= .str))\/(l≠[]/\∀ x∈l,Z3Y tys m x=true)):=by
 cases n with
 | zero=>cases h
 | succ m=>
  simp only [Z3Y] at h
  split at h
  ·rename_i k d;exact ⟨m,_,_,rfl,d,.inl ⟨rfl,.inl ⟨k,rfl⟩⟩⟩
  ·rename_i d;exact ⟨m,_,_,rfl,d,.inl ⟨rfl,.inr (.inl rfl)⟩⟩
  ·rename_i d;exact ⟨m,_,_,rfl,d,.inl ⟨rfl,.inr (.inr rfl)⟩⟩
  ·rename_i τ b l d
   simp only [Bool.and_eq_true,List.all_eq_true] at h
   refine ⟨m,_,_,rfl,d,.inr ⟨by simp,λx f=> ?_⟩⟩
   rcases List.mem_cons.1 f with rfl | f
   ·exact h.1
   ·exact h.2 x f
  ·cases h
theorem Z5R (r:Z0e P tys):(n d:Nat)->(t:TypeId)->n<=d->Z3Y tys n t=true->P.eqGuardType d t=false
 | 0,d,t,_,h=>by cases h
 | n+1,d,t,Q,h=>by
  obtain ⟨m,τ,l,R,A,b⟩:=Z5S h
  obtain rfl:m=n:=by omega
  obtain ⟨d,rfl⟩:∃ e,d=e+1:=⟨d-1,by omega⟩
  have q:=r t τ l A
  rcases b with ⟨rfl,b⟩ | ⟨E,b⟩
  ·obtain ⟨J,K,L,_⟩:=q.und rfl
   rcases b with ⟨k,rfl⟩ | rfl | rfl
   ·simp only [Program.eqGuardType,J k rfl]
   ·simp only [Program.eqGuardType,K rfl]
   ·simp only [Program.eqGuardType,L rfl]
  ·obtain ⟨y,H,C,j,_⟩:=q.str E
   simp only [Program.eqGuardType,H]
   rw [Array.any_eq_false]
   intro i D
   obtain ⟨f,U,T,p,z,_⟩:=(j i (by omega)).out
   have B:y[i]=f:=by rw [Array.getElem?_eq_getElem D] at p;simpa using p
   rw [B,z]
   have I:Z3Y tys m (l.getD i 0)=true:=b _ (by rw [List.getD_eq_getElem?_getD,List.getElem?_eq_getElem (by omega)];exact List.getElem_mem _)
   rw [Z5R r m d _ (by omega) I]
   simp
def EqT (P:Program) (tys:List (TypeId×Ty×List TypeId)) (w:World) (F:Nat->Nat) (St Al:Nat->Prop) (d:Nat) (t:TypeId):Prop:=
 ∀ τ l,Z0o tys t=some (τ,l)->∀ (f h:List Value) (x y:El τ) (i j:List Tag),Rp w F St Al τ i f x []->Rp w F St Al τ j h y []->∀ b,Z3X τ x y=some b->∀ w2,
  (Op.equalIn d t (Z0L (!l.isEmpty) f) (Z0L (!l.isEmpty) h)).run P w2= .ok b w2
theorem Z7h {a b:Ty} {tg:List Tag} {cs:List Value} {x:El (.pair a b)} (h:Rp w F St Al (.pair a b) tg cs x []):∃ d f c1 c2,cs=c1++c2/\Rp w F St Al a d c1 x.1 []/\Rp w F St Al b f c2 x.2 []:=by
 obtain ⟨d,f,c1,c2,l,m,_,rfl,k,i,j⟩:=h
 have:=List.append_eq_nil_iff.1 k.symm
 rw [this.1] at i
 rw [this.2] at j
 exact ⟨d,f,c1,c2,rfl,i,j⟩
theorem Z6y (K:Z0e P tys) (d:Nat) (l r:Array Value) (w2:World):(m:Nat)->(fl:List Field)->(τ:Ty)->(off:Nat)->m≠0->fl.length=m ->
  (∀ i, i < m → ∃ f B H, fl[i]? = some f ∧ f.offset = off + Z0g τ (Z09 m i) ∧ Z0d τ (Z09 m i) = some B ∧ Z0o tys f.type = some (B, H) ∧ f.name ≠ "_" ∧ EqT P tys w F St Al d f.type) →
  ∀ (x y:El τ) (C D:List Tag),Rp w F St Al τ C (l.toList.drop off) x []->Rp w F St Al τ D (r.toList.drop off) y []->∀ b,Z3X τ x y=some b->(Op.eqFields d l r fl).run P w2= .ok b w2
 | 0,fl,τ,off,h,_,_,x,y,C,D,X,Y,b,L=>absurd rfl h
 | 1,fl,τ,off,_,hl,hf,x,y,C,D,X,Y,b,L=>by
  obtain ⟨f,B,H,V,R,W,E,g5,g6⟩:=hf 0 (by omega)
  obtain ⟨f',rfl⟩:=List.length_eq_one_iff.1 hl
  simp only [List.getElem?_cons_zero,Option.some.injEq] at V
  subst V
  simp only [Z09,Z1C,Option.some.injEq,Z4B,Nat.add_zero] at R W
  subst W
  have s1:=X.len.1
  have s2:=Y.len.1
  simp only [List.length_drop,Array.length_toList] at s1 s2
  have j:=(K _ _ _ E)
  have I:=Z2T K E (cs:=l) (off:=off)
  have J:=Z2T K E (cs:=r) (off:=off)
  by_cases Q:size τ=0
  ·obtain ⟨i,z,q1,q2,q3,q4,_⟩:=j.info
   exfalso
   by_cases k:H=[]
   ·obtain ⟨_,_,_,_,u5,u6⟩:=j.und k
    cases τ with
    | unit=>exact u5 rfl
    | pair a b=>exact u6 a b rfl
    | _=>simp [size] at Q
   ·obtain ⟨fs,_,_,Z,_⟩:=j.str k
    obtain ⟨f2,τ2,l2,_,_,_,A,_,q7,_⟩:=(Z 0 (List.length_pos_iff.2 k)).out
    match hn:H.length with
    | 0=>exact absurd (List.length_eq_zero_iff.1 hn) k
    | 1=>
     rw [hn] at A
     simp only [Z09,Z1C,Option.some.injEq] at A
     subst A
     exact q7 Q
    | n+2=>
     rw [hn] at A
     simp only [Z09] at A
     obtain ⟨b,rfl⟩:=Z5f A
     simp only [size] at Q
     omega
  ·have I:=I (by omega) w2
   have J:=J (by omega) w2
   rw [List.take_of_length_le (by simp;omega)] at I J
   have e3:=g6 τ H E _ _ x y C D X Y b L w2
   simp only [Op.eqFields,g5,ne_eq,not_false_eq_true,if_true,Sem.run_bind,R,I,J,e3,Result.andThen_ok]
   cases b<;>simp
 | m+2,fl,τ,off,_,hl,hf,x,y,C,D,X,Y,b,L=>by
  obtain ⟨f,B,H,V,R,W,E,g5,g6⟩:=hf 0 (by omega)
  cases fl with
  | nil=>simp at hl
  | cons f' fl=>
   simp only [List.getElem?_cons_zero,Option.some.injEq] at V
   subst V
   simp only [Z09] at R W
   obtain ⟨τb,rfl⟩:=Z5f W
   have h0:Z0g (.pair B τb) [.fst]=0:=by cases B<;>rfl
   rw [h0,Nat.add_zero] at R
   obtain ⟨ta1,tb1,ca1,T,k1,r1,r2⟩:=Z7h X
   obtain ⟨ta2,tb2,ca2,U,k2,r3,r4⟩:=Z7h Y
   simp only [Z3X] at L
   split at L
   ·rename_i p q hp hq
    cases L
    have s1:=r1.len.1
    have s2:=r3.len.1
    have l1:(l.toList.drop off).length=ca1.length+T.length:=by rw [k1,List.length_append]
    have l2:(r.toList.drop off).length=ca2.length+U.length:=by rw [k2,List.length_append]
    simp only [List.length_drop,Array.length_toList] at l1 l2
    by_cases Q:size B=0
    ·
     exfalso
     have j:=(K _ _ _ E)
     by_cases k:H=[]
     ·obtain ⟨_,_,_,_,u5,u6⟩:=j.und k
      cases B with
      | unit=>exact u5 rfl
      | pair a b=>exact u6 a b rfl
      | _=>simp [size] at Q
     ·obtain ⟨fs,_,_,Z,_⟩:=j.str k
      obtain ⟨f2,τ2,l2,_,_,_,A,_,q7,_⟩:=(Z 0 (List.length_pos_iff.2 k)).out
      match hn:H.length with
      | 0=>exact absurd (List.length_eq_zero_iff.1 hn) k
      | 1=>
       rw [hn] at A
       simp only [Z09,Z1C,Option.some.injEq] at A
       subst A
       exact q7 Q
      | n+2=>
       rw [hn] at A
       simp only [Z09] at A
       obtain ⟨b,rfl⟩:=Z5f A
       simp only [size] at Q
       omega
    have I:=Z2T K E (cs:=l) (off:=off) (by omega) w2
    have J:=Z2T K E (cs:=r) (off:=off) (by omega) w2
    rw [k1,List.take_left' s1] at I
    rw [k2,List.take_left' s2] at J
    have e3:=g6 B H E _ _ x.1 y.1 ta1 ta2 r1 r3 p hp w2
    have d1:l.toList.drop (off+size B)=T:=by rw [<-List.drop_drop,k1,List.drop_left' s1]
    have d2:r.toList.drop (off+size B)=U:=by rw [<-List.drop_drop,k2,List.drop_left' s2]
    have e4:=Z6y K d l r w2 (m+1) fl τb (off+size B) (by omega) (by simpa using hl) (λi hi=>by
     obtain ⟨f,τg,lg,q1,q2,q3,q4,Z,A⟩:=hf (i+1) (by omega)
     simp only [Z09] at q2 q3
     obtain ⟨a',b',he,q3'⟩:=Z8R q3
     cases he
     refine ⟨f,τg,lg,by simpa using q1,?_,q3',q4,Z,A⟩
     have:Z0g (.pair B τb) (.snd::Z09 (m+1) i)=size B+Z0g τb (Z09 (m+1) i):=rfl
     rw [q2,this];omega) x.2 y.2 tb1 tb2 (by rw [d1];exact r2) (by rw [d2];exact r4) q hq
    simp only [Op.eqFields,g5,ne_eq,not_false_eq_true,if_true,Sem.run_bind,R,I,J,e3,Result.andThen_ok]
    cases p
    ·simp
    ·simpa using e4
   ·cases L
theorem Z73 (D:Z0e P tys):(n d:Nat)->(t:TypeId)->n<=d->Z3Y tys n t=true->EqT P tys w F St Al d t
 | 0,d,t,_,h=>by cases h
 | n+1,d,t,hd,h=>by
  obtain ⟨m,τ,l,hm,T,r⟩:=Z5S h
  obtain rfl:m=n:=by omega
  obtain ⟨d,rfl⟩:∃ e,d=e+1:=⟨d-1,by omega⟩
  have R:=D t τ l T
  intro τ' l' p B C x y K L z A b j w2
  rw [T] at p
  cases p
  rcases r with ⟨rfl,r⟩ | ⟨V,r⟩
  ·obtain ⟨u1,u2,u3,_⟩:=R.und rfl
   rcases r with ⟨k,rfl⟩ | rfl | rfl
   ·obtain ⟨rfl,_,_⟩:=z
    obtain ⟨rfl,_,_⟩:=A
    simp only [Z3X,Option.some.injEq] at j
    subst j
    show (Op.equalIn (d+1) t (.int k x) (.int k y)).run P w2=_
    simp only [Op.equalIn,Sem.run_bind,run_underlying (u1 k rfl),Result.andThen_ok,if_true,Sem.run_pure]
   ·obtain ⟨rfl,_,_⟩:=z
    obtain ⟨rfl,_,_⟩:=A
    simp only [Z3X,Option.some.injEq] at j
    subst j
    show (Op.equalIn (d+1) t (.bool x) (.bool y)).run P w2=_
    simp only [Op.equalIn,Sem.run_bind,run_underlying (u2 rfl),Result.andThen_ok,Sem.run_pure]
   ·obtain ⟨rfl,_,_⟩:=z
    obtain ⟨rfl,_,_⟩:=A
    simp only [Z3X,Option.some.injEq] at j
    subst j
    show (Op.equalIn (d+1) t (.string x) (.string y)).run P w2=_
    simp only [Op.equalIn,Sem.run_bind,run_underlying (u3 rfl),Result.andThen_ok,Sem.run_pure]
    rw [beq_toListBytes]
  ·obtain ⟨Q,W,E,H,J⟩:=R.str V
   have I:(!l.isEmpty)=true:=by cases l<;>simp_all
   rw [I]
   have q:P.fieldsOf t=Q:=by simp [Program.fieldsOf,W]
   show (Op.equalIn (d+1) t (.agg B.toArray) (.agg C.toArray)).run P w2=_
   rw [run_equalIn_struct w2 d t _ _ (by rw [q];exact W) J,q]
   refine Z6y D d _ _ w2 l.length Q.toList τ 0 (by simpa using V) (by simpa using E) (λi U=> ?_) x y K L (by simpa using z) (by simpa using A) b j
   obtain ⟨f,τf,Y,Z,q2,q3,q4,q5,_,q7⟩:=(H i U).out
   refine ⟨f,τf,Y,by rw [Array.getElem?_toList];exact Z,by rw [q3];omega,q4,q5,q7,?_⟩
   have X:Z3Y tys m f.type=true:=by
    rw [q2]
    exact r _ (by rw [List.getD_eq_getElem?_getD,List.getElem?_eq_getElem U];exact List.getElem_mem _)
   exact Z73 D m d f.type (by omega) X
theorem Z99 (Q:Z0e P tys) (I:Inv W0 M σ a w G xs) {D:BinOp} {t ty:TypeId} {x y:Operand} (U:o.op= .binOp D t x y ty) {u v:TVal} (Y:σ.look x=some u) (Z:σ.look y=some v) (A:u.ag=true) (B:v.ag=true)
  {r:Bool×TVal} (f:eqV tys t D u v=some r):Z0P P σ a w G o (.val r.2):=by
 unfold eqV at f
 split at f
 ·rename_i R
  simp only [Bool.and_eq_true,decide_eq_true_eq] at R
  obtain ⟨⟨k,J⟩,K⟩:=R
  obtain ⟨l,z,T⟩:=Z0W K
  rw [J] at T
  obtain ⟨h,m⟩:=Z1n I Y
  obtain ⟨i,n⟩:=Z1n I Z
  obtain ⟨τ,ag,p,tg⟩:=u
  obtain ⟨τ',W,q,L⟩:=v
  simp only at A B m n h i z
  subst A;subst B
  obtain ⟨c1,E⟩:=m
  obtain ⟨c2,H⟩:=n
  split at f
  ·rename_i V
   simp only at V
   subst V
   have v1:Z02 (a.eval x)=c1.toList:=by rw [E];rfl
   have v2:Z02 (a.eval y)=c2.toList:=by rw [H];rfl
   rw [v1] at h
   rw [v2] at i
   have d:∀ w2:World,(eqGuard D t x y (.agg c1) (.agg c2)).run P w2= .ok () w2:=by
    intro w2
    have X:=Z5R Q 20 P.depth t (by unfold Program.depth Made.depth;omega) k
    cases D<;>simp [eqGuard,X,Sem.run_bind,run_program]
   have j:∀ b,Z3X τ' p q=some b->∀ w2,(Op.equal t (.agg c1) (.agg c2)).run P w2= .ok b w2:=by
    intro b C w2
    have:=Z73 (w:=w) (F:=G.F) (St:=G.St) (Al:=G.Al) Q 20 Op.maxDepth t (by unfold Op.maxDepth;omega) k _ _ z _ _ p q tg L h i b C w2
    rw [<-T] at this
    exact this
   split at f
   ·rename_i b C
    split at f
    ·cases f
     refine ⟨.bool b,Z0B rfl ⟨rfl,rfl,rfl⟩,λw2=> ?_⟩
     rw [Z03 U]
     simp only [execOp,E,H,Sem.run_bind,d w2,Result.andThen_ok,binOp,j b C w2,Sem.run_pure]
    ·cases f
     refine ⟨.bool (!b),Z0B rfl ⟨rfl,rfl,rfl⟩,λw2=> ?_⟩
     rw [Z03 U]
     simp only [execOp,E,H,Sem.run_bind,d w2,Result.andThen_ok,binOp,j b C w2,Sem.run_pure]
    ·cases f
   ·cases f
  ·cases f
 ·cases f
theorem Z7r (j:Z0e P tys) (I:Inv W0 M σ a w G xs) {p:BinOp} {t ty:TypeId} {x y:Operand} (f:o.op= .binOp p t x y ty) (h:Z0l tys σ o.op=some (g,tv)) (n:g=true):Z0P P σ a w G o tv:=by
 rw [f] at h
 simp only [Z0l] at h
 split at h
 ·rename_i u v l m
  obtain ⟨r,i,k⟩:=Option.map_eq_some_iff.1 h
  simp only [Prod.mk.injEq] at k
  obtain ⟨d,rfl⟩:=k
  rw [n] at d
  split at i
  ·rename_i b
   simp only [Bool.and_eq_true] at b
   exact Z99 j I f l m b.1 b.2 i
  ·exact Z8M j I f l m i d
 ·cases h
theorem Z7u (d:Z0e P tys) (I:Inv W0 M σ a w G xs) (h:Z0l tys σ o.op=some (g,tv)) (j:g=true):Z5M P σ a w G o tv:=by
 cases b:o.op with
 | move x=>exact (Z3e I b h).ok
 | unOp k t x=>exact (Z6J I b h).ok
 | binOp k t x y ty=>exact (Z7r d I b h j).ok
 | convert s t x=>exact Z7s d I b h
 | nilCheck x=>exact (Z3o I b h).ok
 | makeFunc f fst cs=>exact (Z4K I b h).ok
 | load t x=>exact Z8N d I b h
 | slice t x m l n=>exact (Z6c d I b h j).ok
 | fieldAddr t x i=>exact (Z2V d I b h).ok
 | field t x i=>exact (Z6a d I b h).ok
 | indexAddr t x i=>exact (Z2W d I b h j).ok
 | index t x i=>exact (Z6b d I b h j).ok
 | extract x i=>exact (Z5d I b h).ok
 | call c=>exact (Z7t d I b h).ok
 | _=>rw [b] at h;simp [Z0l] at h
end
end Go.PI
namespace Go.PI
structure Calmer (w:World) (G:Ghost) (w':World) (G':Ghost):Prop where
 a:∀ w2,Z6e w' G' w2->Z6e w G w2
 b:∀ w2,Z4l w' G' w2->Z4l w G w2
def Z5i (w:World) (G:Ghost) (w':World) (G':Ghost):Prop:=∀ w2,Z4l w' G' w2->Z4l w G w2
theorem Calmer.refl (w:World) (G:Ghost):Calmer w G w G:=⟨λ_ h=>h,λ_ h=>h⟩
theorem Calmer.trans {w1 w2 j:World} {f g i:Ghost} (h:Calmer w1 f w2 g) (k:Calmer w2 g j i):Calmer w1 f j i:=⟨λw d=>h.a w (k.a w d),λw d=>h.b w (k.b w d)⟩
theorem Sim.calmer {w:World} {G G':Ghost} (h:Sim G G'):Calmer w G w G':=⟨λw2 f=>
 ⟨λb d j o n cs k g=>f.1 b d (by rw [h.Al];exact j) o n cs (by rw [h.F];exact k) g,λi b d=>f.2 i b ((h.bx b i).2 d)⟩,λw2 f i b d=>f i b ((h.bx b i).2 d)⟩
structure Pushed (w w':World) (o:Obj):Prop where
 heap:w'.heap=w.heap.push o
 os:w'.os=w.os
 tape:w'.tape=w.tape
 output:w'.output=w.output
theorem Pushed.old {w w':World} {o:Obj} (h:Pushed w w' o) {b:Nat} (d:b<w.heap.size):w'.heap[b]? = w.heap[b]? := by
 rw [h.heap,Array.getElem?_push_lt d,Array.getElem?_eq_getElem d]
theorem Pushed.new {w w':World} {o:Obj} (h:Pushed w w' o):w'.heap[w.heap.size]? = some o:=by
 rw [h.heap];simp
theorem Pushed.size {w w':World} {o:Obj} (h:Pushed w w' o):w'.heap.size=w.heap.size+1:=by rw [h.heap];simp
theorem Pushed.alloc (w:World) (o:Obj):Pushed w (w.alloc o) o:=⟨rfl,rfl,rfl,rfl⟩
theorem Pushed.drew (w:World) (o:Obj):Pushed w (w.drew.alloc o) o:=⟨rfl,rfl,rfl,rfl⟩
def Ghost.grow (G:Ghost) (g:Nat) (z:Who) (n:Nat):Ghost:=
 { G with F:=λb=>if b=g then n else G.F b,who:=λb=>if b=g then some z else G.who b }
section
variable {W0:Base} {M:Nat->Prop} {σ:State} {a:Act} {w w':World} {G:Ghost} {xs:List Nat}
theorem Inv.grow (I:Inv W0 M σ a w G xs) {o:Obj} (f:Pushed w w' o) {z:Who} (n:Nat) {ys:List Nat} (C:(z= .x/\ys=[w.heap.size])\/((∃ i,z= .a i)/\ys=[])) :
  Inv W0 M σ a w' (G.grow w.heap.size z n) (ys++xs)/\Calmer w G w' (G.grow w.heap.size z n) /\
   ∀ (τ:Ty) (tg:List Tag) (cs:List Value) (x:El τ) (fp:List Nat),Rp w G.F G.St G.Al τ tg cs x fp ->
    Rp w' (G.grow w.heap.size z n).F (G.grow w.heap.size z n).St (G.grow w.heap.size z n).Al τ tg cs x fp:=by
 have m:∀ b,b<w.heap.size->Z06 w G.F w' (G.grow w.heap.size z n).F b/\(G.grow w.heap.size z n).F b=G.F b:=by
  intro b d
  have:(G.grow w.heap.size z n).F b=G.F b:=by
   show (if b=w.heap.size then n else G.F b)=_
   rw [if_neg (by omega)]
  exact ⟨Z06.of_block (f.old d) (by rw [this];exact Nat.le_refl _),this⟩
 have g:∀ b,b<w.heap.size->(G.grow w.heap.size z n).who b=G.who b:=λb d=>if_neg (by omega)
 have j:∀ b z,G.who b=some z->b<w.heap.size:=λb z h=>(I.lt b z h).1
 have k:∀ b l,G.who b=some l->(G.grow w.heap.size z n).who b=some l:=λb l h=>by rw [g b (j b l h)];exact h
 have p:Same σ w G w' (G.grow w.heap.size z n):=
  ⟨rfl,rfl,rfl,λb l h _=>k b l h,λb d h=>⟨λi=>by rw [g b d];exact h.1 i,λB=>h.2 (by rw [<-g b d];exact B)⟩,λb h=>h,λb h=>(m b (I.st b h).2).1,λb z h _ _=>m b (j b z h),λi v h=>f.old (j _ _ (I.box i v h).2),.inr λb d _=>(m b d).1⟩
 have H:(G.grow w.heap.size z n).who w.heap.size=some z:=if_pos rfl
 refine ⟨?_,?_,?_⟩
 ·refine I.world p (λb d=>⟨?_,?_⟩) (λb l d=> ?_) ?_ (λb d=> ?_) ?_ ⟨λb d A=>by rw [(m b (by have:=I.ext.size;omega)).2];exact I.org.F b d A,I.org.St,I.org.St'⟩
  ·rw [g b (I.st b d).2];exact (I.st b d).1
  ·rw [f.size];have:=(I.st b d).2;omega
  ·by_cases q:b=w.heap.size
   ·subst q
    exact ⟨by rw [f.size];omega,.inl I.ext.size⟩
   ·have:G.who b=some l:=by
     have r:(G.grow w.heap.size z n).who b=G.who b:=if_neg q
     rw [<-r];exact d
    obtain ⟨r,D⟩:=I.lt b l this
    exact ⟨by rw [f.size];omega,D⟩
  ·refine ⟨f.os.trans I.ext.os,f.tape.trans I.ext.tape,f.output.trans I.ext.output,by rw [f.size];have:=I.ext.size;omega,λb d A=> ?_⟩
   rw [f.old (by have:=I.ext.size;omega)];exact I.ext.block b d A
  ·rcases List.mem_append.1 d with d | d
   ·rcases C with ⟨rfl,rfl⟩ | ⟨_,rfl⟩
    ·rw [List.mem_singleton.1 d];exact H
    ·cases d
   ·exact k b _ (I.whoX b d)
  ·rcases C with ⟨rfl,rfl⟩ | ⟨_,rfl⟩
   ·refine List.nodup_cons.2 ⟨λJ=> ?_,I.nodX⟩
    have:=j _ _ (I.whoX _ J)
    omega
   ·exact I.nodX
 ·refine ⟨λw2 y=>⟨λb d E o K cs B r=> ?_,λi b d=> ?_⟩,λw2 y i b d=> ?_⟩
  ·refine y.1 b (by rw [f.size];omega) (p.Al b d E) o K cs (by rw [(m b d).2];exact B) ?_
   rw [Z11 (f.old d)];exact r
  ·rw [y.2 i b (k b _ d)]
   exact f.old (j b _ d)
  ·rw [y i b (k b _ d)]
   exact f.old (j b _ d)
 ·intro τ tg cs x fp h
  exact h.pres p.St p.Al p.S (λb d=>m b (h.lt b d)) (.inr λb d _=>(m b d).1)
end
end Go.PI
namespace Go.PI
def Z1r (i:Nat) (tv:TV) (v:Value) (Q:Place->Value->Prop):Prop:=
 match tv with
 | .ref p _=>¬ (p.box=true/\p.root=i)
 | .eref p=>¬ (p.box=true/\p.root=i)
 | .ptr p=>p.root=i->Q p v
 | .clos f b=>∀ k (h:k<b.length),b[k].root=i->∀ vs:Array Value,v= .func (.func f) #[] vs->Q b[k] (vs.getD k undef)
 | _=>True
theorem Z1r.mono {i:Nat} {tv:TV} {v:Value} {Q d:Place->Value->Prop} (h:Z1r i tv v Q) (g:∀ p v,p.root=i->Q p v->d p v):Z1r i tv v d:=by
 cases tv with
 | ptr p=>exact λb=>g _ _ b (h b)
 | clos f m=>exact λk j b vs l=>g _ _ b (h k j b vs l)
 | _=>exact h
theorem Z1r.or_dead {i:Nat} {tv b:TV} {v:Value} {Q:Place->Value->Prop} (h:Z1r i tv v Q) (ht:b=tv\/b= .dead):Z1r i b v Q:=by
 rcases ht with rfl | rfl
 ·exact h
 ·trivial
def Z2j (g:Nat) (τ:Ty) (p:Place) (u:Value):Prop:=
 p.box=true/\Z07 p.path=true/\∃ off,u= .pointer (some ⟨g,off,none⟩)/\∀ (w:World) (l:List Value),∃ cs,Z00 w τ l (some (g,0)) p.path=some (cs,some (g,off))
theorem Z4x:{path:List Step}->{w w':World}->{τ:Ty}->{l l':List Value}->{base:Option (Nat×Nat)}->{cs:List Value}->{b:Option (Nat×Nat)}->Z07 path=true ->
  Z00 w τ l base path=some (cs,b)->∃ f,Z00 w' τ l' base path=some (f,b)
 | [],w,w',τ,l,l',base,cs,b,_,h=>by
  rw [Z0Q] at h ⊢
  cases h
  exact ⟨_,rfl⟩
 | .fst::p,w,w',.pair a c,l,l',base,cs,b,d,h=>Z4x (path:=p) (τ:=a) (w:=w) (w':=w') (l:=l.take (size a)) (l':=l'.take (size a)) d h
 | .snd::p,w,w',.pair a c,l,l',base,cs,b,d,h=>Z4x (path:=p) (τ:=c) (w:=w) (w':=w') (l:=l.drop (size a)) (l':=l'.drop (size a)) d h
 | .idx _::_,_,_,_,_,_,_,_,_,d,_=>by simp [Z07] at d
 | .fst::_,_,_,.int _,_,_,_,_,_,_,h=>by simp [Z00] at h
 | .fst::_,_,_,.bool,_,_,_,_,_,_,h=>by simp [Z00] at h
 | .fst::_,_,_,.str,_,_,_,_,_,_,h=>by simp [Z00] at h
 | .fst::_,_,_,.unit,_,_,_,_,_,_,h=>by simp [Z00] at h
 | .fst::_,_,_,.slice _,_,_,_,_,_,_,h=>by simp [Z00] at h
 | .snd::_,_,_,.int _,_,_,_,_,_,_,h=>by simp [Z00] at h
 | .snd::_,_,_,.bool,_,_,_,_,_,_,h=>by simp [Z00] at h
 | .snd::_,_,_,.str,_,_,_,_,_,_,h=>by simp [Z00] at h
 | .snd::_,_,_,.unit,_,_,_,_,_,_,h=>by simp [Z00] at h
 | .snd::_,_,_,.slice _,_,_,_,_,_,_,h=>by simp [Z00] at h
section
variable {W0:Base} {M:Nat->Prop} {σ:State} {a:Act} {w w':World} {G:Ghost} {xs:List Nat}
theorem Z1y {i:Nat} {v:TVal} (h:σ.boxAt i=some v):i<σ.boxes.length:=by
 rcases Nat.lt_or_ge i σ.boxes.length with b | b
 ·exact b
 ·rw [show σ.boxAt i=none from Z2c _ _ b] at h;cases h
theorem Z0D (i:Nat) (v:Option TVal) (j:Nat):(σ.putBox i v).boxAt j=if i=j/\i<σ.boxes.length then v else σ.boxAt j:=Z0T _ _ _ _
theorem Z1B (i:Nat) (v:Option TVal) (j:Nat):(σ.putBox i v).slot j=σ.slot j:=rfl
theorem Z54 {i:Nat} {v:TVal} {p:Place} {u:Value} (I:Inv W0 M σ a w G xs) (j:σ.boxAt i=some v) (f:p.box=true) (d:Z07 p.path=true) (q:p.root=i) (h:Z0x σ G a w p u):Z2j (G.ad i) v.τ p u:=by
 obtain ⟨C,r,path⟩:=p
 simp only at f q d
 subst f
 subst q
 rcases h with h | ⟨cs,b,⟨τ,l,B,k,m,n⟩,z⟩
 ·rw [Z1m,j] at h;cases h
 ·rw [Z1m,j] at k
  cases k
  obtain ⟨⟨c,T,A,_⟩,_⟩:=I.box r v j
  simp only [Z08,A,Option.some.injEq,Prod.mk.injEq] at m
  obtain ⟨rfl,rfl⟩:=m
  have g:∃ off,b=(G.ad r,off):=by
   have:∀ {path:List Step} {τ:Ty} {l:List Value} {base:Nat×Nat} {cs:List Value} {b:Nat×Nat},Z07 path=true->Z00 w τ l (some base) path=some (cs,some b)->b.1=base.1:=by
    intro path
    induction path with
    | nil=>intro τ l base cs b _ h;rw [Z0Q] at h;cases h;rfl
    | cons s path y=>
     intro τ l base cs b d h
     cases s with
     | idx i=>simp [Z07] at d
     | fst=>cases τ<;>first | (exact y (by simpa [Z07] using d) h) | (simp [Z00] at h)
     | snd=>cases τ<;>first | (have:=y (by simpa [Z07] using d) h;exact this) | (simp [Z00] at h)
   have:=this d n
   exact ⟨b.2,Prod.ext this rfl⟩
  obtain ⟨off,rfl⟩:=g
  exact ⟨rfl,d,off,z,λw l=>Z4x d n⟩
theorem Inv.ptrFix (I:Inv W0 M σ a w G xs) {i:Nat} {v:TVal} (n:σ.boxAt i=some v) (j:Nat) (r:j<σ.slots.length) :
  Z1r i (TV.loosen true i (σ.slot j)) (a.tmps.getD j undef) (Z2j (G.ad i) v.τ):=by
 have h:=I.slot j r
 cases q:σ.slot j with
 | ref p ag=>
  simp only [TV.loosen]
  split
  ·trivial
  ·rename_i g;simpa [Z1r] using g
 | eref p=>
  simp only [TV.loosen]
  split
  ·trivial
  ·rename_i g;simpa [Z1r] using g
 | ptr p=>
  rw [q] at h
  exact λm=>Z54 I n h.2.1 h.2.2.1 m h.2.2.2
 | clos f A=>
  rw [q] at h
  obtain ⟨_,vs,y,_,l⟩:=h
  intro k b m z d
  rw [y] at d
  cases d
  exact Z54 I n (l k b).1 (l k b).2.1 m (l k b).2.2
 | _=>trivial
theorem Z2j.rel {σ':State} {j:Act} {G':Ghost} {g:Nat} {τ:Ty} {p:Place} {u:Value} (h:Z2j g τ p u) {v:TVal} (i:σ'.boxAt p.root=some v) (n:v.τ=τ) (b:G'.ad p.root=g)
  {c:Array Value} {T:TypeId} {fr:Nat×Nat} (k:w'.heap[g]? = some (.cells c T fr)):Z0x σ' G' j w' p u:=by
 obtain ⟨d,y,off,m,l⟩:=h
 obtain ⟨cs,f⟩:=l w' c.toList
 obtain ⟨q,r,path⟩:=p
 simp only at d i b f
 subst d
 refine .inr ⟨cs,(g,off),⟨τ,c.toList,some (g,0),?_,?_,f⟩,m⟩
 ·rw [Z1m,i,<-n];rfl
 ·simp only [Z08,b,k]
theorem Inv.addBox {fv:List Nat} (I:Inv W0 M σ a w G (fv++xs)) {i g:Nat} {c:Array Value} {T:TypeId} {v:TVal} (hi:i<σ.boxes.length) (m:w.heap[g]? = some (.cells c T (0,0)))
  (hw:G.who g=some (.a i)) (hR:Rp w G.F G.St G.Al v.τ v.tg c.toList v.x fv)
  (hs:∀ j,j<σ.slots.length->Z1r i (σ.slot j) (a.tmps.getD j undef) (λp u=>Z2j g v.τ p u)) (W:i<σ.slots.length\/G.ad i=g) :
  ∃ G',Inv W0 M (σ.putBox i (some v)) a w G' xs/\G'.F=G.F/\G'.St=G.St/\G'.Al=G.Al/\(∀ b k,G'.who b=some (.a k)↔G.who b=some (.a k))/\G'.ad=λj=>if j=i then g else G.ad j:=by
 classical
 let G':Ghost:=⟨G.F,G.St,(λb=>if b∈fv then some (.c i) else G.who b),G.fs,(λj=>if j=i then fv else G.fb j),λj=>if j=i then g else G.ad j⟩
 have y:∀ b∈fv,G.who b=some .x:=λb m=>I.whoX b (List.mem_append_left _ m)
 have K:∀ b k,G'.who b=some (.a k)↔G.who b=some (.a k):=by
  intro b k
  show (if b∈fv then some (Who.c i) else G.who b)=some (.a k)↔_
  by_cases m:b∈fv
  ·rw [y b m];simp [m]
  ·simp [m]
 have n:G'.Al=G.Al:=by
  funext b
  apply propext
  show ((∀ k,(if b∈fv then some (Who.c i) else G.who b)≠some (.a k))/\((if b∈fv then some (Who.c i) else G.who b)=none->G.St b))↔_
  by_cases m:b∈fv
  ·simp only [m,if_true]
   have:=y b m
   constructor
   ·intro _;exact ⟨λk=>(by rw [this];simp),λh=>(by rw [this] at h;cases h)⟩
   ·intro _;exact ⟨λk=>(by simp),λh=>(by cases h)⟩
  ·simp only [m,if_false];rfl
 have D:∀ p:Place,¬ (p.box=true/\p.root=i)->(σ.putBox i (some v)).ct p=σ.ct p/\Z08 G' a w p=Z08 G a w p:=by
  rintro ⟨bx,r,path⟩ hp
  cases bx with
  | false=>exact ⟨rfl,rfl⟩
  | true=>
   have X:r≠i:=λh=>hp ⟨rfl,h⟩
   refine ⟨?_,?_⟩
   ·rw [Z1m,Z1m,Z0D,if_neg (by rintro ⟨h,_⟩;exact X h.symm)]
   ·simp only [Z08]
    rw [show G'.ad r=G.ad r from if_neg X]
 have C:∀ {p:Place} {u:Value},p.root≠i->Z0x σ G a w p u->Z0x (σ.putBox i (some v)) G' a w p u:=by
  intro p u B h
  obtain ⟨Q,R⟩:=D p (λh=>B h.2)
  rcases h with h | ⟨cs,b,⟨τ,l,b',U,V,h5⟩,h6⟩
  ·exact .inl (Q.trans h)
  ·exact .inr ⟨cs,b,⟨τ,l,b',Q.trans U,R.trans V,h5⟩,h6⟩
 have P:(σ.putBox i (some v)).boxAt i=some v:=by rw [Z0D];simp [hi]
 have H:∀ {p:Place} {u:Value},p.root=i->Z2j g v.τ p u->Z0x (σ.putBox i (some v)) G' a w p u:=by
  intro p u B h
  exact h.rel (v:=v) (by rw [B];exact P) rfl (show (if p.root=i then g else G.ad p.root)=g by rw [if_pos B]) m
 refine ⟨G',⟨I.defers,I.len,λj L=> ?_,λj u Z=> ?_,λj b m=> ?_,λj b m=> ?_,λb m=> ?_,I.nodS,λj=> ?_,(List.nodup_append.1 I.nodX).2.1,λb m=> ?_,λb z m=> ?_,I.ext,λj L=> ?_,⟨I.org.F,I.org.St,I.org.St'⟩,I.pin⟩,rfl,rfl,n,K,rfl⟩
 ·have h:=I.slot j L
  have J:=hs j L
  rw [Z1B]
  cases ht:σ.slot j with
  | ptr p=>
   rw [ht] at h J
   refine ⟨h.1,h.2.1,h.2.2.1,?_⟩
   by_cases B:p.root=i
   ·exact H B (J B)
   ·exact C B h.2.2.2
  | clos f ps=>
   rw [ht] at h J
   obtain ⟨Q,vs,R,U,V⟩:=h
   refine ⟨Q,vs,R,U,λk Y=>⟨(V k Y).1,(V k Y).2.1,?_⟩⟩
   by_cases B:ps[k].root=i
   ·exact H B (J k Y B vs R)
   ·exact C B (V k Y).2.2
  | ref p ag=>
   rw [ht] at h J
   exact Z01.move (λq d=> .inr (D q (by rw [List.mem_singleton.1 d];exact J))) rfl rfl n h
  | eref p=>
   rw [ht] at h J
   exact Z01.move (λq d=> .inr (D q (by rw [List.mem_singleton.1 d];exact J))) rfl rfl n h
  | tref t' ags=>
   rw [ht] at h
   exact Z01.move (λq d=> .inr (D q (by rw [List.mem_singleton.1 d];rintro ⟨m,_⟩;cases m))) rfl rfl n h
  | dead=>rw [ht] at h;exact Z01.move (G:=G) (λq d=>absurd d (by simp [TV.places])) rfl rfl n h
  | un=>rw [ht] at h;exact Z01.move (G:=G) (λq d=>absurd d (by simp [TV.places])) rfl rfl n h
  | nil=>rw [ht] at h;exact Z01.move (G:=G) (λq d=>absurd d (by simp [TV.places])) rfl rfl n h
  | val u=>rw [ht] at h;exact Z01.move (G:=G) (λq d=>absurd d (by simp [TV.places])) rfl rfl n h
  | tup u ags=>rw [ht] at h;exact Z01.move (G:=G) (λq d=>absurd d (by simp [TV.places])) rfl rfl n h
  | eptr u t=>rw [ht] at h;exact Z01.move (G:=G) (λq d=>absurd d (by simp [TV.places])) rfl rfl n h
  | sclos f τs u=>rw [ht] at h;exact Z01.move (G:=G) (λq d=>absurd d (by simp [TV.places])) rfl rfl n h
  | sptr r τr p=>rw [ht] at h;exact Z01.move (G:=G) (λq d=>absurd d (by simp [TV.places])) rfl rfl n h
 ·rw [Z0D] at Z
  split at Z
  ·rename_i hc
   obtain ⟨rfl,_⟩:=hc
   cases Z
   refine ⟨⟨c,T,?_,?_⟩,?_⟩
   ·rw [show G'.ad i=g from if_pos rfl];exact m
   ·rw [show G'.fb i=fv from if_pos rfl,n];exact hR
   ·rw [show G'.ad i=g from if_pos rfl];exact (K _ _).2 hw
  ·rename_i hc
   have A:j≠i:=λh=>hc ⟨h.symm,hi⟩
   obtain ⟨⟨c',T',Q,R⟩,U⟩:=I.box j u Z
   refine ⟨⟨c',T',?_,?_⟩,?_⟩
   ·rw [show G'.ad j=G.ad j from if_neg A];exact Q
   ·rw [show G'.fb j=G.fb j from if_neg A,n];exact R
   ·rw [show G'.ad j=G.ad j from if_neg A];exact (K _ _).2 U
 ·have h:=I.whoS j b m
  show (if b∈fv then some (Who.c i) else G.who b)=_
  rw [if_neg (λE=>by rw [y b E] at h;cases h)]
  exact h
 ·show (if b∈fv then some (Who.c i) else G.who b)=_
  by_cases A:j=i
  ·subst A
   have:b∈fv:=by simpa [G'] using m
   rw [if_pos this]
  ·have m:b∈G.fb j:=by simpa [G',A] using m
   have h:=I.whoC j b m
   rw [if_neg (λE=>by rw [y b E] at h;cases h)]
   exact h
 ·have h:=I.whoX b (List.mem_append_right _ m)
  show (if b∈fv then some (Who.c i) else G.who b)=_
  rw [if_neg]
  ·exact h
  ·intro E
   exact (List.nodup_append.1 I.nodX).2.2 b E b m rfl
 ·show (if j=i then fv else G.fb j).Nodup
  split
  ·exact (List.nodup_append.1 I.nodX).1
  ·exact I.nodC j
 ·have h:=I.st b m
  refine ⟨?_,h.2⟩
  show (if b∈fv then some (Who.c i) else G.who b)=none
  rw [if_neg (λE=>by rw [y b E] at h;cases h.1)]
  exact h.1
 ·change (if b∈fv then some (Who.c i) else G.who b)=some z at m
  split at m
  ·rename_i E
   exact I.lt b _ (y b E)
  ·exact I.lt b z m
 ·have L:σ.slots.length<=j:=L
  show (if j=i then g else G.ad j)=_
  split
  ·rename_i h
   subst h
   rcases W with h | h
   ·omega
   ·rw [<-h];exact I.adx _ L
  ·exact I.adx j L
end
end Go.PI
namespace Go.PI
theorem Z1w {α:Type}:∀ (l:List α) (i:Nat) (u v:α),Z0I (Z0I l i u) i v=Z0I l i v
 | [],_,_,_=>rfl
 | _::_,0,_,_=>rfl
 | _::l,i+1,u,v=>by simp only [Z2u,Z27,Z1f];rw [Z1w l i u v]
theorem Z5b {α:Type} {d:α}:∀ (l:List α) (i:Nat),i<l.length->Z0I l i (Z0v d l i)=l
 | [],_,h=>by simp at h
 | _::_,0,_=>rfl
 | _::l,i+1,h=>by simp only [Z2u,Z27,Z1f,Z0y,Z0t,Z0q];rw [Z5b l i (by simpa using h)]
section
variable {W0:Base} {M:Nat->Prop} {σ:State} {a:Act} {w w':World} {G:Ghost} {xs:List Nat}
theorem Inv.takeBox (I:Inv W0 M σ a w G xs) {i:Nat} {v:TVal} (g:σ.boxAt i=some v) :
  ∃ G',Inv W0 M ((σ.loosen true i).putBox i none) a w G' (G.fb i++xs)/\Sim G G'/\G.who (G.ad i)=some (.a i) /\
   (∃ c T,w.heap[G.ad i]? = some (.cells c T (0,0))/\Rp w G.F G.St G.Al v.τ v.tg c.toList v.x (G.fb i)) /\
   ∀ j,j<σ.slots.length->Z1r i ((σ.loosen true i).slot j) (a.tmps.getD j undef) (Z2j (G.ad i) v.τ):=by
 obtain ⟨⟨c,T,n,m⟩,B⟩:=I.box i v g
 obtain ⟨z,q,_⟩:=I.loosen true i
 have d:(σ.loosen true i).content ⟨true,i,[]⟩=some v:=g
 obtain ⟨C,r,h⟩:=q.recontent (p:=⟨true,i,[]⟩) (c':=⟨v.τ,v.ag,v.x,v.tg.map Tag.alias⟩) d rfl rfl (l:=c.toList) (b:=some (G.ad i,0)) (f':=[]) (fi:=G.fb i)
  (by simp [Z08,n]) (by exact m.alias (Ghost.St_Al I)) (by simp [Ghost.fpOf])
 have k:((σ.loosen true i).setContent ⟨true,i,[]⟩ ⟨v.τ,v.ag,v.x,v.tg.map Tag.alias⟩).putBox i none=(σ.loosen true i).putBox i none:=by
  simp only [State.setContent,State.putBox,Z1w]
 obtain ⟨f,y,_⟩:=r.drop (σ':=(σ.loosen true i).putBox i none) (by simp [State.setContent,State.putBox]) (λj=> .inl rfl) (λj=>by
  rw [<-k,Z0D]
  split
  ·exact .inr rfl
  ·exact .inl rfl)
 refine ⟨_,y,((Sim.fs G z).trans h).trans (Sim.fs _ f),B,⟨c,T,n,m⟩,λj A=> ?_⟩
 rw [Z0i]
 exact I.ptrFix g j A
theorem Z3q (i j:Nat):(σ.empty i).slot j=if i=j/\i<σ.slots.length then .dead else (σ.loosen false i).slot j:=by
 unfold State.empty State.put State.slot
 simp only []
 rw [Z0T]
 simp [State.loosen,Z0a]
theorem Inv.takeSlot (I:Inv W0 M σ a w G xs) {i:Nat} {v:TVal} (d:σ.slot i= .val v) :
  ∃ G',Inv W0 M (σ.empty i) a w G' (G.fs i++xs)/\Sim G G'/\Z0f v.ag (a.tmps.getD i undef)/\Rp w G.F G.St G.Al v.τ v.tg (Z02 (a.tmps.getD i undef)) v.x (G.fs i):=by
 have m:=Z0V (σ:=σ) (i:=i) (by rw [d];simp)
 have z:=I.slot i m
 rw [d] at z
 obtain ⟨q,y⟩:=z
 have f:σ.content ⟨false,i,[]⟩=some v:=by simp [State.content,d]
 obtain ⟨D,A,n⟩:=I.recontent (p:=⟨false,i,[]⟩) (c':=⟨v.τ,v.ag,v.x,v.tg.map Tag.alias⟩) f rfl rfl (l:=Z02 (a.tmps.getD i undef)) (b:=none) (f':=[]) (fi:=G.fs i)
  rfl (by exact y.alias (Ghost.St_Al I)) (by simp [Ghost.fpOf])
 have r:∀ j,(σ.setContent ⟨false,i,[]⟩ ⟨v.τ,v.ag,v.x,v.tg.map Tag.alias⟩).slot j=if i=j then .val ⟨v.τ,v.ag,v.x,v.tg.map Tag.alias⟩ else σ.slot j:=by
  intro j
  simp only [State.setContent,d]
  show Z0v .dead (Z0I σ.slots i _) j=_
  rw [Z0T]
  by_cases h:i=j<;>simp [h,m,State.slot]
  intro E;omega
 obtain ⟨g,B,_⟩:=A.loosen false i
 obtain ⟨k,C,_⟩:=B.drop (σ':=σ.empty i) (by simp [State.setContent,State.empty,State.put,State.loosen,Z0a,d,Z0F]) (λj=>by
  rw [Z3q,Z0i,Z0i,r]
  by_cases h:i=j
  ·simp [h,m];right;intro H;omega
  ·simp [h]) (λj=>by
  left
  show σ.boxAt j=_
  simp only [State.setContent,d]
  rfl)
 exact ⟨_,C,(n.trans (Sim.fs _ g)).trans (Sim.fs _ k),q,y⟩
structure Wrote (w w':World) (g:Nat):Prop where
 size:w'.heap.size=w.heap.size
 old:∀ b,b≠g->w'.heap[b]? = w.heap[b]?
 os:w'.os=w.os
 tape:w'.tape=w.tape
 output:w'.output=w.output
theorem Inv.patch (I:Inv W0 M σ a w G xs) {g:Nat} {z:Who} (l:G.who g=some z) (p:z= .x\/∃ i,z= .a i/\σ.boxAt i=none) (k:Wrote w w' g) (n:Nat)
  (V:σ.noN\/(∃ i,z= .a i)\/Z06 w G.F w' (λb=>if b=g then n else G.F b) g) :
  let G':Ghost:={ G with F:=λb=>if b=g then n else G.F b }
  Inv W0 M σ a w' G' xs/\((∀ i,z≠ .a i)->Z06 w G.F w' G'.F g->Calmer w G w' G') /\
   ∀ (τ:Ty) (tg:List Tag) (cs:List Value) (x:El τ) (fp:List Nat),Rp w G.F G.St G.Al τ tg cs x fp->g ∉ fp->((∀ t∈tg,t.isN=false)\/(∃ i,z= .a i)\/Z06 w G.F w' G'.F g)->Rp w' G'.F G'.St G'.Al τ tg cs x fp:=by
 intro G'
 have r:∀ b,b≠g->Z06 w G.F w' G'.F b/\G'.F b=G.F b:=by
  intro b f
  have:G'.F b=G.F b:=if_neg f
  exact ⟨Z06.of_block (k.old b f) (by rw [this];exact Nat.le_refl _),this⟩
 have Y:G'.Al=G.Al:=rfl
 have J:∀ b,G.St b->b≠g:=λb f h=>by rw [h] at f;rw [(I.st g f).1] at l;cases l
 have E:∀ b,G.Al b->(∃ i,z= .a i)->b≠g:=λb f ⟨i,W⟩ h=>by rw [h] at f;exact f.1 i (by rw [l,W])
 have m:∀ {b},((∃ i,z= .a i)\/Z06 w G.F w' G'.F g)->G.Al b->Z06 w G.F w' G'.F b:=by
  intro b h f
  by_cases d:b=g
  ·rcases h with h | h
   ·exact absurd d (E b f h)
   ·rw [d];exact h
  ·exact (r b d).1
 have H:Same σ w G w' G':=
  ⟨rfl,rfl,rfl,λ_ _ h _=>h,λ_ _ h=>h,λb h=>h,λb h=>(r b (J b h)).1,λb R h D T=>r b (λd=>by
    rw [d,l] at h;cases h
    rcases p with rfl | ⟨i,rfl,_⟩
    ·exact T rfl
    ·exact D i rfl),λi v h=>k.old _ (λd=>by
    have P:=(I.box i v h).2
    rw [d,l] at P
    cases P
    rcases p with p | ⟨j,p,X⟩
    ·cases p
    ·cases p;rw [X] at h;cases h),V.imp id λh b _ f=>m h f⟩
 refine ⟨?_,?_,?_⟩
 ·refine I.world H (λb f=>⟨(I.st b f).1,by rw [k.size];exact (I.st b f).2⟩) (λb R f=>by rw [k.size];exact I.lt b R f) ?_ I.whoX I.nodX ⟨λb f q=> ?_,I.org.St,I.org.St'⟩
  rotate_left
  ·by_cases d:b=g
   ·rcases (I.lt g z l).2 with h | h
    ·rw [d] at f;omega
    ·exact absurd (d ▸ h) q
   ·rw [(r b d).2];exact I.org.F b f q
  refine ⟨k.os.trans I.ext.os,k.tape.trans I.ext.tape,k.output.trans I.ext.output,by rw [k.size];exact I.ext.size,λb f q=> ?_⟩
  rw [k.old b (λd=> ?_)]
  ·exact I.ext.block b f q
  ·rcases (I.lt g z l).2 with h | h
   ·rw [d] at f;omega
   ·exact q (d ▸ h)
 ·intro A U
  refine ⟨λw2 B=>⟨λb f L o Q cs C D=> ?_,λi b f=> ?_⟩,λw2 B i b f=> ?_⟩
  ·have y:=m (.inr U) L
   refine B.1 b (by rw [k.size];exact f) L o Q cs (Nat.le_trans C y.1) (y.2.1 o Q cs C D)
  ·rw [B.2 i b f]
   exact k.old b (λd=>by rw [d,l] at f;cases f;exact A i rfl)
  ·rw [B i b f]
   exact k.old b (λd=>by rw [d,l] at f;cases f;exact A i rfl)
 ·intro τ tg cs x fp h K C
  refine h.pres H.St (λb _ h=>h) H.S (λb f=>r b (λd=>K (d ▸ f))) ?_
  exact C.imp id λh b _ f=>m h f
end
end Go.PI
namespace Go.PI
section
variable {W0:Base} {M:Nat->Prop} {σ:State} {a:Act} {w w':World} {G:Ghost} {xs:List Nat} {P:Program} {tys:List (TypeId×Ty×List TypeId)}
theorem Inv.freeze {fv:List Nat} (I:Inv W0 M σ a w G (fv++xs)) :
  ∃ G',Inv W0 M σ a w G' xs/\G'.F=G.F/\G'.ad=G.ad/\G'.Al=G.Al/\(∀ b k,G'.who b=some (.a k)↔G.who b=some (.a k))/\(∀ b,G'.St b↔G.St b\/b∈fv) /\
   (∀ (τ:Ty) (tg:List Tag) (cs:List Value) (x:El τ) (fp:List Nat),Rp w G.F G.St G.Al τ tg cs x fp->Rp w G'.F G'.St G'.Al τ tg cs x fp):=by
 classical
 let G':Ghost:={ G with St:=λb=>G.St b\/b∈fv,who:=λb=>if b∈fv then none else G.who b }
 have g:∀ b∈fv,G.who b=some .x:=λb f=>I.whoX b (List.mem_append_left _ f)
 have j:∀ b k,G'.who b=some (.a k)↔G.who b=some (.a k):=by
  intro b k
  show (if b∈fv then none else G.who b)=some (.a k)↔_
  by_cases f:b∈fv
  ·rw [g b f];simp [f]
  ·simp [f]
 have m:∀ b z,G.who b=some z->z≠ .x->G'.who b=some z:=by
  intro b z h p
  show (if b∈fv then none else G.who b)=some z
  rw [if_neg (λl=>by rw [g b l] at h;cases h;exact p rfl)]
  exact h
 have n:G'.Al=G.Al:=by
  funext b
  apply propext
  show ((∀ k,(if b∈fv then none else G.who b)≠some (.a k))/\((if b∈fv then none else G.who b)=none->(G.St b\/b∈fv)))↔_
  by_cases f:b∈fv
  ·simp only [f,if_true]
   have:=g b f
   constructor
   ·intro _;exact ⟨λk=>(by rw [this];simp),λh=>(by rw [this] at h;cases h)⟩
   ·intro _;exact ⟨λk=>(by simp),λh=>(by simp)⟩
  ·simp only [f,if_false,or_false];rfl
 have i:Same σ w G w G':=⟨rfl,rfl,rfl,m,λb _ h=>by rw [n];exact h,λb h=> .inl h,λb h=>Z06.refl _ _ _,λb z h _ _=>⟨Z06.refl _ _ _,rfl⟩,λ_ _ _=>rfl,.inr λb _ _=>Z06.refl _ _ _⟩
 refine ⟨G',?_,rfl,rfl,n,j,λb=>Iff.rfl,λτ tg cs x fp h=>h.pres i.St i.Al i.S (λb _=>⟨Z06.refl _ _ _,rfl⟩) (.inr λb _ _=>Z06.refl _ _ _)⟩
 refine I.world i (λb f=> ?_) (λb z f=> ?_) I.ext (λb f=> ?_) (List.nodup_append.1 I.nodX).2.1 ⟨I.org.F,λb f=> .inl (I.org.St b f),λb f=>f.elim (I.org.St' b) λh=> .inr (I.lt b _ (g b h)).2⟩
 ·rcases f with f | f
  ·have:=I.st b f
   refine ⟨?_,this.2⟩
   show (if b∈fv then none else G.who b)=none
   split
   ·rfl
   ·exact this.1
  ·exact ⟨if_pos f,(I.lt b _ (g b f)).1⟩
 ·change (if b∈fv then none else G.who b)=some z at f
  split at f
  ·cases f
  ·exact I.lt b z f
 ·show (if b∈fv then none else G.who b)=_
  rw [if_neg (λl=>(List.nodup_append.1 I.nodX).2.2 b l b f rfl)]
  exact I.whoX b (List.mem_append_right _ f)
def Z1l (P:Program) (W0:Base) (M:Nat->Prop) (o:Oper) (a:Act) (w:World) (G:Ghost) (xs:List Nat) (σ':State) (tv:TV) (b:Bool):Prop:=
 ∃ v w' G' fp n,(execOp a.eval o).run P w= .ok n w'/\(n= .value v\/(n= .skip/\v=undef))/\Inv W0 M σ' a w' G' (fp++xs)/\Z01 σ' G' a w' tv v fp/\(b=true->Calmer w G w' G')
section
variable {R:Type} {Γ:Env R} {d:Option Nat} {type:TypeId} {o:Oper} {k:TV->State->Option R} {r:R}
theorem Z7J (I:Inv W0 M σ a w G xs) {x:Operand} (n:o.op= .assign x) (h:Z0N Γ d type σ k o.op=some r):∃ tv σ',k tv σ'=some r/\Z1l P W0 M o a w G xs σ' tv true:=by
 rw [n] at h
 simp only [Z0N] at h
 have b:(execOp a.eval o).run P w= .ok (.value (a.eval x)) w:=by rw [Z03 n];rfl
 have i:=Z0w I x
 have f:∀ tv,σ.peek x=tv->(∀ v ags,tv≠ .tup v ags)->k tv σ=some r->∃ tv σ',k tv σ'=some r/\Z1l P W0 M o a w G xs σ' tv true:=by
  intro tv m j B
  rw [m] at i
  exact ⟨tv,σ,B,a.eval x,w,G,[],_,b,.inl rfl,I,i j,λ_=>Calmer.refl _ _⟩
 split at h
 ·rename_i v g;exact f _ g (by simp) h
 ·rename_i p ag g
  split at h
  ·rename_i u L
   split at h
   ·rename_i v σ' ht
    obtain ⟨fp,G',q,C,Q,z,l⟩:=Z10 I ht
    exact ⟨_,_,h,a.eval x,w,G',fp,_,b,.inl rfl,q,⟨l,z⟩,λ_=>C.calmer⟩
   ·cases h
  ·cases h
 ·rename_i g
  split at h
  ·rename_i e ht
   refine ⟨_,_,h,a.eval x,w,G,[],_,b,.inl rfl,I,?_,λ_=>Calmer.refl _ _⟩
   rw [g] at i
   obtain ⟨D,_⟩:=i (by simp)
   rw [D]
   exact ⟨rfl,.O,none,0,rfl,rfl,Nat.le_refl _,.inl ⟨rfl,rfl,rfl,rfl,rfl⟩⟩
  ·cases h
 ·cases h
 ·cases h
 ·cases h
 ·rename_i F H J K E y
  exact f _ rfl (λv ags A=>y v ags A) h
theorem Z8S (i:Nat) (tv:TV) (v:Value) (Q:Place->Value->Prop):Z1r i (TV.unpoint i (TV.loosen true i tv)) v Q:=by
 cases tv with
 | ref p ag=>
  simp only [TV.loosen]
  split
  ·trivial
  ·rename_i b;simpa [Z1r,TV.unpoint] using b
 | eref p=>
  simp only [TV.loosen]
  split
  ·trivial
  ·rename_i b;simpa [Z1r,TV.unpoint] using b
 | ptr p=>
  simp only [TV.loosen,TV.unpoint]
  split
  ·trivial
  ·rename_i b
   intro g
   simp [g] at b
 | clos f h=>
  simp only [TV.loosen,TV.unpoint]
  split
  ·trivial
  ·rename_i b
   intro k j g
   exact absurd (List.any_eq_true.2 ⟨h[k],List.getElem_mem _,by simp [g]⟩) b
 | _=>trivial
theorem Z63 {fv:List Nat} (I:Inv W0 M σ a w G (fv++xs)) {i:Nat} (y:i<σ.slots.length) {v:TVal} {t:TypeId} {c:Array Value} (T:Rp w G.F G.St G.Al v.τ v.tg c.toList v.x fv) (A:Pushed w w' (.cells c t (0,0))) :
  ∃ G',Inv W0 M (((σ.loosen true i).unpoint i).putBox i (some v)) a w' G' xs/\Calmer w G w' G' /\
   Z01 (((σ.loosen true i).unpoint i).putBox i (some v)) G' a w' (.ptr ⟨true,i,[]⟩) (.pointer (some ⟨w.heap.size,0,none⟩)) []:=by
 obtain ⟨K,E,_⟩:=I.loosen true i
 obtain ⟨m,H,_⟩:=E.unpoint i
 obtain ⟨B,f,l⟩:=H.grow A (z:= .a i) 0 (ys:=[]) (.inr ⟨⟨i,rfl⟩,rfl⟩)
 have f:Calmer w G w' (Ghost.grow { G with fs:=m } w.heap.size (.a i) 0):=((Sim.fs G m).calmer).trans f
 have q:=l _ _ _ _ _ T
 by_cases D:i<σ.boxes.length
 ·obtain ⟨G',J,Q,gS,L,C,p⟩:=Inv.addBox (fv:=fv) (xs:=xs) (i:=i) (g:=w.heap.size) (v:=v) B (by simpa [State.loosen,Z0a,State.unpoint,Z0a] using D) A.new (if_pos rfl) q (λj W=>by
   rw [Z5g,Z0i]
   exact Z8S _ _ _ _) (.inl (by simpa [State.loosen,Z0a,State.unpoint,Z0a] using y))
  refine ⟨G',J,f.trans ?_,⟨rfl,rfl,rfl,.inr ⟨c.toList,(w.heap.size,0),⟨v.τ,c.toList,some (w.heap.size,0),?_,?_,Z0Q _ _ _ _⟩,rfl⟩⟩⟩
  ·exact ⟨λw2 n=>⟨λb h U=>(by have:=n.1 b h (by rw [L];exact U);rw [Q] at this;exact this),λj b h=>n.2 j b ((C b j).2 h)⟩,λw2 n j b h=>n j b ((C b j).2 h)⟩
  ·rw [Z1m,Z0D]
   simp [State.loosen,Z0a,State.unpoint,Z0a,D]
  ·simp only [Z08,p,if_true,A.new]
 ·have V:((σ.loosen true i).unpoint i).putBox i (some v)=(σ.loosen true i).unpoint i:=by
   unfold State.putBox
   rw [Z6o]
   simp [State.loosen,Z0a,State.unpoint,Z0a];omega
  rw [V]
  refine ⟨_,B.sub (λb h=>by simp [h]) (List.nodup_append.1 I.nodX).2.1,f,⟨rfl,rfl,rfl,.inl ?_⟩⟩
  rw [Z1m]
  have:((σ.loosen true i).unpoint i).boxAt i=none:=Z2c _ _ (by simp [State.loosen,Z0a,State.unpoint,Z0a];omega)
  rw [this];rfl
theorem Z8e (y:Z0e P Γ.tys) (I:Inv W0 M σ a w G xs) {t:TypeId} (n:o.op= .alloc t) (h:Z0N Γ d type σ k o.op=some r):∃ tv σ',k tv σ'=some r/\Z1l P W0 M o a w G xs σ' tv true:=by
 rw [n] at h
 simp only [Z0N] at h
 split at h
 ·rename_i i τ ht
  split at h
  case isFalse=>cases h
  rename_i f
  obtain ⟨l,j,_⟩:=Z0W ht
  obtain ⟨D,z,B,E,_,_,C,m,_⟩:=(y _ _ _ j).info
  have b:(execOp a.eval o).run P w= .ok (.value (.pointer (some ⟨w.heap.size,0,none⟩))) (w.alloc (.cells z.cells t)):=by
   rw [Z03 n]
   simp [execOp,Instr.alloc,zeroValue,typeInfo,B,C,newVar,newRow]
  have q:Rp w G.F G.St G.Al τ (List.replicate (Z05 τ) .O) z.cells.toList (zero τ) []:=by rw [m];exact Z2Y τ
  obtain ⟨G',p,A,g⟩:=Z63 (fv:=[]) (i:=i) (v:=⟨τ,false,zero τ,List.replicate (Z05 τ) .O⟩) (by simpa using I) f q (Pushed.alloc w _)
  exact ⟨_,_,h,_,_,G',[],_,b,.inl rfl,by simpa using p,g,λ_=>A⟩
 ·cases h
theorem Z8p {np:Nat} {x:Operand} {τ:Ty} {i:Nat} (h:Z8o np σ x τ=some i):x= .tmp i/\∃ u,σ.slot i= .val u/\u.τ=τ:=by
 unfold Z8o at h
 split at h
 ·split at h
  ·rename_i u f
   split at h
   ·rename_i b
    simp only [Bool.and_eq_true,decide_eq_true_eq] at b
    cases h
    exact ⟨rfl,u,f,b.1.2⟩
   ·cases h
  ·cases h
 ·cases h
theorem Z93 (I:Inv W0 M σ a w G xs) {t:TypeId} {x:Operand} (Q:o.op= .box t x) (h:Z0N Γ d type σ k o.op=some r):∃ tv σ',k tv σ'=some r/\Z1l P W0 M o a w G xs σ' tv true:=by
 rw [Q] at h
 simp only [Z0N] at h
 split at h
 ·rename_i i τ ht
  have m:(execOp a.eval o).run P w= .ok (.value (.pointer (some ⟨w.heap.size,0,none⟩))) (w.alloc (.cells (a.eval x).cells t)):=by
   rw [Z03 Q]
   simp [execOp,Instr.box,newVar,newRow]
  split at h
  ·rename_i p A
   obtain ⟨rfl,u,g,rfl⟩:=Z8p A
   have C:=I.slot p (Z0V (by rw [g];simp))
   rw [g] at C
   obtain ⟨n,B⟩:=C
   have E:a.eval (.tmp p)=a.tmps.getD p undef:=rfl
   have l:=B.len.1
   have T:=Pushed.alloc w (.cells (a.eval (.tmp p)).cells t (0,0))
   obtain ⟨X,D,_⟩:=I.grow T (z:= .x) (size u.τ) (ys:=[w.heap.size]) (.inl ⟨rfl,rfl⟩)
   obtain ⟨U,Y,K,aa,Z,L,gS,_⟩:=X.freeze
   refine ⟨_,_,h,_,_,U,[],_,m,.inl rfl,by simpa using Y,⟨rfl,rfl,w.heap.size,0,u.τ,rfl,Z1C _,l,?_,(gS _).2 (.inr (by simp)),?_⟩,λ_=>D.trans ?_⟩
   ·unfold Z04
    rw [T.new]
    simp only []
    have f:(a.eval (.tmp p)).cells.toList=Z02 (a.tmps.getD p undef):=by rw [n.cells,E]
    have hsz:(a.eval (.tmp p)).cells.size=size u.τ:=by
     rw [<-l,<-f];simp
    rw [if_pos (by omega),f,Z4B]
   ·rw [K]
    show 0+size u.τ<=(if w.heap.size=w.heap.size then size u.τ else G.F w.heap.size)
    rw [if_pos rfl];omega
   ·exact ⟨λw2 q=>⟨λb y ha=>(by have:=q.1 b y (by rw [Z];exact ha);rw [K] at this;exact this),λj b y=>q.2 j b ((L b j).2 y)⟩,λw2 q j b y=>q j b ((L b j).2 y)⟩
  ·split at h
   ·rename_i v σ' J
    split at h
    case isFalse=>cases h
    rename_i H
    obtain ⟨fp,G1,W,C,hτ,B,n⟩:=Z10 I J
    rw [n.cells] at B
    obtain ⟨G',V,q,g⟩:=Z63 (i:=i) (v:=v) W H B (Pushed.alloc w _)
    exact ⟨_,_,h,_,_,G',[],_,m,.inl rfl,by simpa using V,g,λ_=>C.calmer.trans q⟩
   ·cases h
 ·cases h
end
end
end Go.PI
namespace Go.PI
theorem Z85:(css:List (List Value))->(s k:Nat)->(rest:List Value)->(b:∀ c∈css,c.length=s)->(f:k<css.length)->((css.flatten++rest).drop (k * s)).take s=css[k]
 | [],s,k,rest,b,f=>by simp at f
 | c::css,s,0,rest,b,f=>by
  have:=b c (by simp)
  simp [<-this]
 | c::css,s,k+1,rest,b,f=>by
  have g:=b c (by simp)
  simp only [List.flatten_cons,List.append_assoc,List.getElem_cons_succ]
  rw [Nat.add_mul,Nat.one_mul,Nat.add_comm,<-g,List.drop_length_add_append,g]
  exact Z85 css s k rest (λc' h=>b c' (List.mem_cons_of_mem _ h)) (by simpa using f)
theorem Z3Z:(css:List (List Value))->(s:Nat)->(b:∀ c∈css,c.length=s)->css.flatten.length=css.length * s
 | [],s,b=>by simp
 | c::css,s,b=>by
  simp only [List.flatten_cons,List.length_append,List.length_cons,Z3Z css s (λc' h=>b c' (List.mem_cons_of_mem _ h)),b c (by simp)]
  rw [Nat.add_mul,Nat.one_mul,Nat.add_comm]
section
variable {W0:Base} {M:Nat->Prop} {σ:State} {a:Act} {w w':World} {G:Ghost} {xs:List Nat} {P:Program} {tys:List (TypeId×Ty×List TypeId)}
theorem Z3u {e:Ty} {fps:List (List Nat)} (I:Inv W0 M σ a w G (fps.flatten++xs)) {C:Array Value} {T:TypeId} {fr:Nat×Nat} (m:Pushed w w' (.cells C T fr)) (A:Z3W C fr) {t:Tag} (ht:t.own=true)
  {x:List (El e)} {css:List (List Value)} {rest:List Value} {cap:Nat} (E:C.toList=css.flatten++rest) (p:css.length=x.length) (q:fps.length=x.length) (b:x.length<=cap) (B:cap * size e<=C.size)
  (f:∀ k (h:k<x.length),Rp w G.F G.St G.Al e (List.replicate (Z05 e) t.inner) (css.getD k []) (x.get ⟨k,h⟩) (fps.getD k []))
  (y:e= .int .u8\/¬ (fr.1<=C.size/\C.size<fr.2):=by first | exact .inl rfl | exact .inr λh=>absurd h.2 (Nat.not_lt_zero _)) :
  ∃ G',Inv W0 M σ a w' G' ((w.heap.size::fps.flatten)++xs)/\Calmer w G w' G'/\Rp w' G'.F G'.St G'.Al (.slice e) [t] [.slice (some ⟨w.heap.size,0,none⟩) x.length cap] x (w.heap.size::fps.flatten)/\G'.St=G.St:=by
 obtain ⟨D,n,J⟩:=I.grow m (z:= .x) (x.length * size e) (ys:=[w.heap.size]) (.inl ⟨rfl,rfl⟩)
 have l:∀ c∈css,c.length=size e:=by
  intro c n
  obtain ⟨k,g,rfl⟩:=List.mem_iff_getElem.1 n
  have:=(f k (by omega)).len.1
  rw [List.getD_eq_getElem?_getD,List.getElem?_eq_getElem g] at this
  exact this
 refine ⟨_,D,n,?_,rfl⟩
 refine ⟨t,some ⟨w.heap.size,0,none⟩,cap,rfl,rfl,b,.inr (.inl ⟨ht,w.heap.size,0,fps,rfl,?_,rfl,q,⟨⟨C,T,fr,m.new,by omega,A⟩,y.imp id λh=>⟨C,T,fr,m.new,h⟩⟩,?_,λk g=> ?_⟩)⟩
 ·exact ⟨λi h=>(by rw [show (G.grow w.heap.size .x (x.length * size e)).who w.heap.size=some .x from if_pos rfl] at h;cases h),λh=>(by rw [show (G.grow w.heap.size .x (x.length * size e)).who w.heap.size=some .x from if_pos rfl] at h;cases h)⟩
 ·show (if w.heap.size=w.heap.size then x.length * size e else _)=_
  rw [if_pos rfl,Nat.zero_add]
 ·have j:k<css.length:=by rw [p];exact g
  refine ⟨css[k],?_,?_⟩
  ·unfold Z04
   rw [m.new]
   simp only []
   have H:(k+1) * size e<=cap * size e:=Nat.mul_le_mul_right _ (by have:k<x.length:=g;omega)
   rw [Nat.add_mul,Nat.one_mul] at H
   rw [if_pos (by omega),E,Nat.zero_add,Z85 css (size e) k rest l j]
  ·have:=J _ _ _ _ _ (f k g)
   rw [List.getD_eq_getElem?_getD,List.getElem?_eq_getElem j] at this
   exact this
theorem Z5x (z:List Value):(n:Nat)->(madeCells z.toArray (n * z.length)).toList=(List.replicate n z).flatten
 | 0=>by simp [madeCells]
 | n+1=>by
  have f:=Z5x z n
  have h:(List.range z.length).map (λi=>z.toArray[(n * z.length+i) % z.toArray.size]!)=z:=by
   apply List.ext_getElem
   ·simp
   ·intro i b g
    simp only [List.getElem_map,List.getElem_range,List.size_toArray]
    rw [Nat.mul_add_mod_self_right,Nat.mod_eq_of_lt (by simpa using b)]
    have:i<z.length:=by simpa using b
    simp [this]
  rw [List.replicate_succ',List.flatten_append,<-f]
  simp only [madeCells,Array.toList_map,Array.toList_range,List.flatten_cons,List.flatten_nil,List.append_nil]
  rw [Nat.add_mul,Nat.one_mul,List.range_add,List.map_append,List.map_map]
  congr 1
theorem Z7k {α:Type} (n k:Nat) (a d:α) (h:k<n):(List.replicate n a).getD k d=a:=by simp [List.getD_eq_getElem?_getD,h]
theorem Z25 {α:Type} (n k:Nat):(List.replicate n ([]:List α)).getD k []=[]:=by
 rcases Nat.lt_or_ge k n with h | h
 ·exact Z7k _ _ _ _ h
 ·simp [List.getD_eq_getElem?_getD,h]
theorem Z0E {α:Type} (n:Nat):(List.replicate n ([]:List α)).flatten=[]:=by induction n with
 | zero=>rfl
 | succ n b=>simp [List.replicate_succ,b]
section
variable {R:Type} {Γ:Env R} {d:Option Nat} {type:TypeId} {o:Oper} {k:TV->State->Option R} {r:R}
theorem Z6j (T:Z0e P Γ.tys) (I:Inv W0 M σ a w G xs) {t:TypeId} {n c:Operand} (W:o.op= .makeSlice t n c) (h:Z0N Γ d type σ k o.op=some r):∃ tv σ',k tv σ'=some r/\Z1l P W0 M o a w G xs σ' tv true:=by
 rw [W] at h
 simp only [Z0N] at h
 split at h
 ·cases h
 rename_i C
 split at h
 ·rename_i e m tg1 f tg2 ht hn hm
  rw [cond_eq_ite] at h
  split at h
  ·rename_i U
   simp only [decide_eq_true_eq] at U
   obtain ⟨y,A,Q⟩:=U
   have y: @LE.le Int Int.instLEInt 0 m:=y
   have A: @LE.le Int Int.instLEInt m f:=A
   have Q: @LE.le Int Int.instLEInt f 2147483648:=Q
   obtain ⟨et,le,hu,D,_⟩:=Z12 T ht (by simpa using C)
   obtain ⟨q,z,Z,hs,X,_,hz,p,_⟩:=(T et _ _ D).info
   have K:z.cells.toList.length=size e:=by rw [p];exact (Z2Y (w:=w) (F:=G.F) (St:=G.St) (Al:=G.Al) e).len.1
   have H:=Z0R I hn
   have J:=Z0R I hm
   have l:(execOp a.eval o).run P w= .ok (.value (.slice (some ⟨w.heap.size,0,none⟩) m.toNat f.toNat)) (w.alloc (.cells (madeCells z.cells (f.toNat * size e)) et)):=by
    rw [Z03 W]
    simp only [execOp,H,J,Sem.run_bind,run_make w t et q z hu Z hz .i64 .i64 m f y A (by
     have:(q.bytes:Int) * f<=65536 * f:=Int.mul_le_mul_of_nonneg_right (by omega) (by omega)
     omega) (by omega),hs,Result.andThen_ok,Sem.run_pure]
   have b:=Z5x z.cells.toList f.toNat
   rw [K] at b
   have i:f.toNat=m.toNat+(f.toNat-m.toNat):=by omega
   rw [i,<-List.replicate_append_replicate,List.flatten_append,<-i] at b
   obtain ⟨G',L,g,B,_⟩:=Z3u (e:=e) (fps:=List.replicate m.toNat []) (xs:=xs) (by rw [Z0E];exact I) (Pushed.alloc w (.cells (madeCells z.cells (f.toNat * size e)) et (0,0))) (λj hj Y=>by simp at Y) (t:= .O) rfl
    (x:=List.replicate m.toNat (zero e)) (css:=List.replicate m.toNat z.cells.toList) (cap:=f.toNat) b (by simp) (by simp) (by simp;omega) (by rw [size_madeCells];exact Nat.le_refl _) (λk V=>by
     have E:k<m.toNat:=by simpa using V
     rw [Z7k _ _ _ _ E,Z25,p]
     have:(List.replicate m.toNat (zero e)).get ⟨k,V⟩=zero e:=by simp
     rw [this]
     exact Z2Y e)
   rw [Z0E] at L B
   refine ⟨_,_,h,_,_,G',_,_,l,.inl rfl,L,⟨rfl,?_⟩,λ_=>g⟩
   rw [Z0r rfl]
   rw [List.length_replicate] at B
   exact B
  ·cases h
 ·cases h
end
end
end Go.PI
namespace Go.PI
section
variable {W0:Base} {M:Nat->Prop} {σ:State} {a:Act} {w w':World} {G:Ghost} {xs:List Nat} {P:Program} {tys:List (TypeId×Ty×List TypeId)}
variable {R:Type} {Γ:Env R} {d:Option Nat} {type:TypeId} {o:Oper} {k:TV->State->Option R} {r:R}
theorem Z61 (l:List UInt8):(l.map λb=>[Value.int .u8 (b.toNat:Int)]).flatten=l.map λb=>Value.int .u8 (b.toNat:Int):=by
 induction l with
 | nil=>rfl
 | cons b l f=>simp [f]
theorem Z76 (n:Z0e P Γ.tys) (I:Inv W0 M σ a w G xs) {s t:TypeId} {x:Operand} (F:o.op= .convert s t x) (h:Z0N Γ d type σ k o.op=some r):∃ tv σ',k tv σ'=some r/\Z1l P W0 M o a w G xs σ' tv true:=by
 rw [F] at h
 simp only [Z0N] at h
 split at h
 ·cases h
 rename_i g
 simp only [Bool.or_eq_true,not_or,Bool.not_eq_true] at g
 split at h
 ·rename_i b tg K ht J
  rw [cond_eq_ite] at h
  split at h
  ·have Q:=Z24 I J
   obtain ⟨et,T,L,p,A⟩:=Z12 n ht g.2
   have z:T=[]:=A rfl
   subst z
   have C:=((n et _ _ p).und rfl).1 .u8 rfl
   have l:(execOp a.eval o).run P w= .ok (.value (.slice (some ⟨w.heap.size,0,none⟩) (ByteArray.size b) (grownCap w (ByteArray.size b) 0 et)))
     (w.drew.alloc (.cells (bytesRow b (grownCap w (ByteArray.size b) 0 et)) et ((bytesRow b (grownCap w (ByteArray.size b) 0 et)).size,(bytesRow b (grownCap w (ByteArray.size b) 0 et)).size+1))):=by
    rw [Z03 F]
    simp only [execOp,Q,Sem.run_bind,run_bytes_of_string w s t et b (Z1F n K g.1) L C,Result.andThen_ok,Sem.run_pure]
   have q:=grownCap_ge w b.size 0 et
   have B:(bytesRow b (grownCap w b.size 0 et)).size=grownCap w b.size 0 et:=by
    have:b.data.size=b.size:=rfl
    simp [bytesRow];omega
   have f:(Z1k b).length=b.size:=by simp [Z1k]
   obtain ⟨G',D,i,m,_⟩:=Z3u (e:= .int .u8) (fps:=List.replicate b.size []) (xs:=xs) (by rw [Z0E];exact I) (Pushed.drew w (.cells (bytesRow b (grownCap w b.size 0 et)) et ((bytesRow b (grownCap w b.size 0 et)).size,(bytesRow b (grownCap w b.size 0 et)).size+1)))
    (λj U H=>by have:=H.1;simp only at this;omega) (t:= .O) rfl
    (x:=Z1k b) (css:=b.data.toList.map λb=>[Value.int .u8 (b.toNat:Int)]) (rest:=List.replicate (grownCap w b.size 0 et-b.size) (.int .u8 0)) (cap:=grownCap w b.size 0 et) (by
     rw [Z61];simp [bytesRow]) (by simp [Z1k]) (by rw [f];simp) (by rw [f];exact q) (by rw [B];simp [size]) (λk E=>by
     have y:k<b.data.toList.length:=by rw [f] at E;simpa using E
     rw [Z25]
     refine ⟨?_,rfl,rfl⟩
     rw [List.getD_eq_getElem?_getD,List.getElem?_map,List.getElem?_eq_getElem y]
     simp [Z1k])
   rw [Z0E] at D m
   refine ⟨_,_,h,_,_,G',_,_,l,.inl rfl,D,⟨rfl,?_⟩,λ_=>i⟩
   rw [Z0r rfl]
   rw [f] at m
   exact m
  ·cases h
 ·cases h
theorem Z40:(vs:List Value)->(off j:Nat)->(cells:Array Value)->off+j+vs.length<=cells.size ->
  ((vs.zipIdx j).foldl (λ(cs:Array Value) (x:Value×Nat)=>cs.setIfInBounds (off+x.2) x.1) cells).toList=Z0c cells.toList (off+j) vs
 | [],off,j,cells,h=>by simp [Z0c]
 | v::vs,off,j,cells,h=>by
  simp only [List.length_cons] at h
  simp only [List.zipIdx_cons,List.foldl_cons]
  rw [Z40 vs off (j+1) _ (by simp;omega)]
  have g:off+j<cells.toList.length:=by simp;omega
  simp only [Z0c,Array.toList_setIfInBounds,List.length_cons]
  have b:(cells.toList.set (off+j) v).take (off+(j+1))=cells.toList.take (off+j)++[v]:=by
   rw [show off+(j+1)=(off+j)+1 by omega,List.take_add_one,List.take_set,List.set_eq_of_length_le (by simp;omega),List.getElem?_set_self g]
   rfl
  have f:(cells.toList.set (off+j) v).drop (off+(j+1)+vs.length)=cells.toList.drop (off+j+(vs.length+1)):=by
   rw [show off+(j+1)+vs.length=off+j+(vs.length+1) by omega,List.drop_set_of_lt (by omega)]
  rw [b,f]
  simp
theorem Z8D {place:Nat->Option (Nat×Nat)} {cells:Array Value} {i:Nat} {v:Value} {rest:List (Nat×Value)} {off size:Nat} (g:place i=some (off,size)) (h:v.cells.size=size) (l:off+size<=cells.size) :
  ∃ b:Array Value,Instr.fill place cells ((i,v)::rest)=Instr.fill place b rest/\b.toList=Z0c cells.toList off v.cells.toList/\b.size=cells.size:=by
 refine ⟨v.cells.zipIdx.foldl (λcs (c,j)=>cs.setIfInBounds (off+j) c) cells,?_,?_,?_⟩
 ·simp only [Instr.fill,g]
  rw [if_neg]
  simp [h];omega
 ·have:=Z40 v.cells.toList off 0 cells (by simp;omega)
  rw [Nat.add_zero] at this
  rw [<-this,<-Array.foldl_toList,Array.toList_zipIdx]
 ·have f:(v.cells.zipIdx.foldl (λcs (c,j)=>cs.setIfInBounds (off+j) c) cells).toList.length=cells.toList.length:=by
   have:=Z40 v.cells.toList off 0 cells (by simp;omega)
   rw [Nat.add_zero] at this
   rw [<-Array.foldl_toList,Array.toList_zipIdx,this,Z1S]
   simp;omega
  simpa using f
theorem Z28:{q:List Step}->{τ:Ty}->{x:El τ}->{tg:List Tag}->{u:TVal}->Z07 q=true->Z0b τ x tg q=some u->∃ i,Z0d τ q=some i
 | [],τ,_,_,_,_,_=>⟨τ,Z1C τ⟩
 | .fst::p,.pair a b,x,tg,u,g,h=>Z28 (q:=p) (τ:=a) g h
 | .snd::p,.pair a b,x,tg,u,g,h=>Z28 (q:=p) (τ:=b) g h
 | .idx _::_,_,_,_,_,g,_=>by simp [Z07] at g
 | .fst::_,.int _,_,_,_,_,h=>by simp [Z0b] at h
 | .fst::_,.bool,_,_,_,_,h=>by simp [Z0b] at h
 | .fst::_,.str,_,_,_,_,h=>by simp [Z0b] at h
 | .fst::_,.unit,_,_,_,_,h=>by simp [Z0b] at h
 | .fst::_,.slice _,_,_,_,_,h=>by simp [Z0b] at h
 | .snd::_,.int _,_,_,_,_,h=>by simp [Z0b] at h
 | .snd::_,.bool,_,_,_,_,h=>by simp [Z0b] at h
 | .snd::_,.str,_,_,_,_,h=>by simp [Z0b] at h
 | .snd::_,.unit,_,_,_,_,h=>by simp [Z0b] at h
 | .snd::_,.slice _,_,_,_,_,h=>by simp [Z0b] at h
theorem Z74 {n:Nat} {place:Nat->Option (Nat×Nat)} {τ:Ty} (W:∀ i K,Z0d τ (Z09 n i)=some K->i<n->place i=some (Z0g τ (Z09 n i),size K)) :
  (L:List (Nat×Operand))->(q:∀ p∈L,p.1<n)->(v:TVal)->(J:v.τ=τ)->(σ:State)->(G:Ghost)->(fp:List Nat)->(cells:Array Value)->(kk:TVal->State->Option R)->(I:Inv W0 M σ a w G (fp++xs)) ->
  (hR:Rp w G.F G.St G.Al v.τ v.tg cells.toList v.x fp)->(h:Z6R n L v σ kk=some r) ->
  ∃ B σ' G' m g,kk B σ'=some r/\Instr.fill place cells (L.map λp=>(p.1,a.eval p.2))=some g/\B.τ=τ/\B.ag=v.ag/\Inv W0 M σ' a w G' (m++xs)/\Sim G G'/\Rp w G'.F G'.St G'.Al B.τ B.tg g.toList B.x m
 | [],q,v,J,σ,G,fp,cells,kk,I,hR,h=>⟨v,σ,G,fp,cells,h,rfl,J,rfl,I,Sim.refl _,hR⟩
 | (i,op)::L,q,v,J,σ,G,fp,cells,kk,I,hR,h=>by
  simp only [Z6R] at h
  split at h
  ·rename_i u hu
   split at h
   ·rename_i y σ1 htk
    split at h
    ·rename_i rr X
     obtain ⟨j,G1,I1,hs,hτ,D,hsh⟩:=Z10 I htk
     have C:Rp w G1.F G1.St G1.Al v.τ v.tg cells.toList v.x fp:=by rw [hs.F,hs.St,hs.Al];exact hR
     have U:=Z2O n i
     obtain ⟨K,H⟩:∃ K,Z0d v.τ (Z09 n i)=some K:=Z28 U hu
     obtain ⟨u',Z,hut⟩:=Z3a (x:=v.x) (tg:=v.tg) H
     rw [hu] at Z
     cases Z
     obtain ⟨hlc,hle⟩:=Z0U (w:=w) (cs:=cells.toList) (base:=(none:Option (Nat×Nat))) H C.len.1
     obtain ⟨f1,fi,f2,e1,e2,e3,e4,e5⟩:=Rp.flatLens U C hlc hu
     rw [hsh.cells] at D
     have A:=e5 y _ j rr.1 rr.2 X hτ D
     have aa:(a.eval op).cells.size=size K:=by
      have:=D.len.1
      rw [hτ,hut] at this
      simpa using this
     have Q:cells.size=size v.τ:=by have:=C.len.1;simpa using this
     obtain ⟨l,hf1,hf2,hf3⟩:=Z8D (place:=place) (cells:=cells) (i:=i) (v:=a.eval op) (rest:=L.map λp=>(p.1,a.eval p.2)) (W i K (by rw [<-J];exact H) (q (i,op) (by simp))) aa (by rw [<-J,Q];exact hle)
     have T:l.toList=Z0c cells.toList (Z0g v.τ (Z09 n i)) (a.eval op).cells.toList:=by rw [hf2,J]
     rw [<-T] at A
     have V:(j++(fp++xs)).Nodup:=I1.nodX
     have Y:∀ b∈f1++j++f2++xs,b∈j++(fp++xs):=by
      rw [e1];intro b E;simp only [List.mem_append] at E ⊢;rcases E with ((E | E) | E) | E<;>simp [E]
     have hnd:(f1++j++f2++xs).Nodup:=by
      have hp:((f1++j++f2++xs)++fi).Perm (j++(fp++xs)):=by
       rw [e1]
       refine List.perm_iff_count.2 λz=> ?_
       simp only [List.count_append]
       omega
      exact (List.nodup_append.1 (hp.nodup_iff.2 V)).1
     obtain ⟨B,σ',G',m,g,h1,h2,h3,h4,h5,h6,h7⟩:=Z74 W L (λp hp=>q p (List.mem_cons_of_mem _ hp)) ⟨v.τ,v.ag,rr.1,rr.2⟩ J σ1 G1 (f1++j++f2) l kk (I1.sub Y hnd) A h
     exact ⟨B,σ',G',m,g,h1,by rw [List.map_cons,hf1];exact h2,h3,h4,h5,hs.trans h6,h7⟩
    ·cases h
   ·cases h
  ·cases h
end
end Go.PI
