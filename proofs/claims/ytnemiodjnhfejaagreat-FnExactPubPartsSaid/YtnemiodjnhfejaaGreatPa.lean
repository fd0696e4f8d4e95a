/-
  Program's code interpreted over typed values; printed texts; plain laws. No conditions.
-/
import Derived.Calls
import Derived.Orders
import GoSem.Dispatch
import Derived.Laws.Append
import Derived.Laws.CopyRow
import Derived.Laws.BytesString
import Derived.Laws.Concat
import Derived.Tactics
import Derived.WideLaws
import Derived.Laws.Strings
import Derived.Laws.Cover1
import Derived.Laws.StructEq
set_option linter.unusedVariables false
set_option linter.unusedSimpArgs false
namespace Go.PI
inductive Ty where
 | int (k:IntKind) | bool | str | unit
 | slice (e:Ty) | pair (a b:Ty)
 deriving DecidableEq
@[reducible] def El:Ty->Type
 | .int _=>Int
 | .bool=>Bool
 | .str=>ByteArray
 | .unit=>Unit
 | .slice e=>List (El e)
 | .pair a b=>El a×El b
def zero:(τ:Ty)->El τ
 | .int _=>(0:Int)
 | .bool=>false
 | .str=>(⟨#[]⟩:ByteArray)
 | .unit=>()
 | .slice _=>[]
 | .pair a b=>(zero a,zero b)
def size:Ty->Nat
 | .unit=>0
 | .pair a b=>size a+size b
 | _=>1
def Z06:Ty->Nat
 | .slice _=>1
 | .pair a b=>Z06 a+Z06 b
 | _=>0
inductive Tag where
 | O | PS | PN | S | N
 deriving DecidableEq
def Tag.own:Tag->Bool
 | .O | .PS | .PN=>true
 | _=>false
def Tag.alias:Tag->Tag
 | .S=> .S
 | _=> .N
def Tag.inner:Tag->Tag
 | .O=> .O
 | .PS | .S=> .S
 | .PN | .N=> .N
def Tag.meet:Tag->Tag->Tag
 | .O,t=>t
 | t,.O=>t
 | .S,.S=> .S
 | _,_=> .N
def Tag.over:Tag->Tag
 | .O=> .O
 | .S | .PS=> .PS
 | .N | .PN=> .PN
def Tag.isO:Tag->Bool
 | .O=>true
 | _=>false
def Tag.isN:Tag->Bool
 | .N | .PN=>true
 | _=>false
def Tag.isS:Tag->Bool
 | .S=>true
 | _=>false
def Tag.freeze:Tag->Tag
 | .O | .PS | .S=> .S
 | _=> .N
structure TVal where
 τ:Ty
 ag:Bool
 x:El τ
 tg:List Tag
inductive Step where
 | fst | snd | idx (i:Nat)
 deriving DecidableEq
structure Place where
 box:Bool
 root:Nat
 path:List Step
 deriving DecidableEq
inductive TV where
 | dead
 | un
 | nil
 | val (v:TVal)
 | tup (v:TVal) (ags:List Bool)
 | ref (p:Place) (ag:Bool)
 | ptr (p:Place)
 | eptr (v:TVal) (t:Tag)
 | eref (p:Place)
 | tref (t:Nat) (ags:List Bool)
 | sptr (r:Nat) (τ:Ty) (p:List Step)
 | clos (fn:FuncId) (caps:List Place)
 | sclos (fn:FuncId) (τs:List Ty) (v:TVal)
structure State where
 slots:List TV
 boxes:List (Option TVal)
noncomputable def Z0v {α:Type} (d:α) (l:List α):Nat->α:=
 List.rec (motive:=λ_=>Nat->α) (λ_=>d) (λa _ ih n=>Nat.rec (motive:=λ_=>α) a (λm _=>ih m) n) l
noncomputable def Z0I {α:Type} (l:List α):Nat->α->List α:=
 List.rec (motive:=λ_=>Nat->α->List α) (λ_ _=>[]) (λa l ih n v=>Nat.rec (motive:=λ_=>List α) (v::l) (λm _=>a::ih m v) n) l
noncomputable def Z53 {α β:Type} (f:α->β) (l:List α):List β:=List.rec (motive:=λ_=>List β) [] (λa _ ih=>f a::ih) l
theorem Z0y {α:Type} (d:α) (i:Nat):Z0v d [] i=d:=rfl
theorem Z0t {α:Type} (d a:α) (l:List α):Z0v d (a::l) 0=a:=rfl
theorem Z0q {α:Type} (d a:α) (l:List α) (n:Nat):Z0v d (a::l) (n+1)=Z0v d l n:=rfl
theorem Z2w {α:Type} (i:Nat) (v:α):Z0I [] i v=[]:=rfl
theorem Z2a {α:Type} (a v:α) (l:List α):Z0I (a::l) 0 v=v::l:=rfl
theorem Z1j {α:Type} (a v:α) (l:List α) (n:Nat):Z0I (a::l) (n+1) v=a::Z0I l n v:=rfl
theorem Z0b {α β:Type} (f:α->β):(l:List α)->Z53 f l=l.map f
 | []=>rfl
 | a::l=>congrArg (f a:: ·) (Z0b f l)
noncomputable def State.slot (σ:State) (i:Nat):TV:=Z0v .dead σ.slots i
noncomputable def State.boxAt (σ:State) (i:Nat):Option TVal:=Z0v none σ.boxes i
noncomputable def State.putBox (σ:State) (i:Nat) (v:Option TVal):State:={ σ with boxes:=Z0I σ.boxes i v }
noncomputable def Z2I (τ:Ty) (v:TVal):Option (El τ):=
 if h:v.τ=τ then some (h ▸ v.x) else none
noncomputable def Z0d:Ty->List Step->Option Ty
 | τ,[]=>some τ
 | .pair a _,.fst::p=>Z0d a p
 | .pair _ b,.snd::p=>Z0d b p
 | _,_=>none
noncomputable def Z04:(τ:Ty)->El τ->List Tag->List Step->Option TVal
 | τ,x,tg,[]=>some ⟨τ,false,x,tg⟩
 | .pair a b,x,tg,.fst::p=>Z04 a x.1 (tg.take (Z06 a)) p
 | .pair a b,x,tg,.snd::p=>Z04 b x.2 (tg.drop (Z06 a)) p
 | .slice e,x,tg,.idx i::p=>Z04 e (x.getD i (zero e)) (List.replicate (Z06 e) (tg.headD .N).inner) p
 | _,_,_,_=>none
noncomputable def Z0K:(τ:Ty)->El τ->List Tag->List Step->TVal->Option (El τ×List Tag)
 | τ,_,_,[],v=>if h:v.τ=τ then some (h ▸ v.x,v.tg) else none
 | .pair a b,x,tg,.fst::p,v=>(Z0K a x.1 (tg.take (Z06 a)) p v).map λr=>((r.1,x.2),r.2++tg.drop (Z06 a))
 | .pair a b,x,tg,.snd::p,v=>(Z0K b x.2 (tg.drop (Z06 a)) p v).map λr=>((x.1,r.1),tg.take (Z06 a)++r.2)
 | .slice e,x,tg,.idx i::p,v=>(Z0K e (x.getD i (zero e)) (List.replicate (Z06 e) (tg.headD .N).inner) p v).map λr=>(x.set i r.1,tg)
 | _,_,_,_,_=>none
noncomputable def Z08:List Step->Bool
 | []=>true
 | .idx _::_=>false
 | _::p=>Z08 p
noncomputable def State.content (σ:State) (p:Place):Option TVal:=
 match p.box with
 | true=>σ.boxAt p.root
 | false=>match σ.slot p.root with | .val v=>some v | .tup v _=>some v | _=>none
noncomputable def State.getAt (σ:State) (p:Place):Option TVal:=(σ.content p).bind λv=>Z04 v.τ v.x v.tg p.path
noncomputable def State.setContent (σ:State) (p:Place) (v:TVal):State:=
 match p.box with
 | true=>{ σ with boxes:=Z0I σ.boxes p.root (some v) }
 | false=>match σ.slot p.root with
  | .val _=>{ σ with slots:=Z0I σ.slots p.root (.val v) }
  | .tup _ ags=>{ σ with slots:=Z0I σ.slots p.root (.tup v ags) }
  | _=>σ
noncomputable def State.setAt (σ:State) (p:Place) (u:TVal):Option State:=
 (σ.content p).bind λv=>(Z0K v.τ v.x v.tg p.path u).map λr=>σ.setContent p ⟨v.τ,v.ag,r.1,r.2⟩
noncomputable def TVal.alias (v:TVal):TVal:={ v with tg:=v.tg.map Tag.alias }
noncomputable def TVal.anyOwn (v:TVal):Bool:=v.tg.any Tag.own
noncomputable def TVal.freeze (v:TVal):TVal:={ v with tg:=v.tg.map Tag.freeze }
noncomputable def TVal.allS (v:TVal):Bool:=v.tg.all Tag.isS
noncomputable def TVal.allO (v:TVal):Bool:=v.tg.all Tag.isO
noncomputable def TVal.noN (v:TVal):Bool:=v.tg.all λt=> !t.isN
noncomputable def TV.loosen (box:Bool) (root:Nat):TV->TV
 | .ref p ag=>if p.box==box&&p.root==root then .dead else .ref p ag
 | .eref p=>if p.box==box&&p.root==root then .dead else .eref p
 | .tref t ags=>if !box&&t==root then .dead else .tref t ags
 | tv=>tv
noncomputable def State.loosen (σ:State) (box:Bool) (root:Nat):State:=
 { σ with slots:=Z53 (TV.loosen box root) σ.slots }
noncomputable def TV.unpoint (root:Nat):TV->TV
 | .ptr p=>if p.root==root then .dead else .ptr p
 | .clos f ps=>if ps.any (λp=>p.root==root) then .dead else .clos f ps
 | tv=>tv
noncomputable def State.unpoint (σ:State) (root:Nat):State:={ σ with slots:=Z53 (TV.unpoint root) σ.slots }
noncomputable def TV.isVal:TV->Bool
 | .val _=>true
 | _=>false
noncomputable def TV.holds:TV->Bool
 | .val v=>v.anyOwn
 | .tup v _=>v.anyOwn
 | _=>false
noncomputable def State.put (σ:State) (i:Nat) (v:TV):State:=
 { σ with slots:=Z0I (σ.loosen false i).slots i v }
noncomputable def TV.unmir (i:Nat):TV->TV
 | .sptr r τ p=>if r==i then .dead else .sptr r τ p
 | tv=>tv
noncomputable def State.unmir (σ:State) (i:Nat):State:={ σ with slots:=Z53 (TV.unmir i) σ.slots }
noncomputable def State.puto (σ:State) (d:Option Nat) (v:TV):State:=match d with | some i=>(σ.unmir i).put i (TV.unmir i v) | none=>σ
noncomputable def Z0A (τ:Ty) (x:El τ):TVal:=⟨τ,false,x,[]⟩
noncomputable def Z37 (σ:State) (p:Place) (ag:Bool):Option TV:=
 match σ.getAt p with
 | some u=>some (if u.allS then .val { u with ag:=ag } else .ref p ag)
 | none=>none
noncomputable def State.peek (σ:State):Operand->TV
 | .tmp t=>match σ.slot t with
  | .val v=>if v.anyOwn then .ref ⟨false,t,[]⟩ v.ag else .val v
  | tv=>tv
 | .const (.int k n)=> .val (Z0A (.int k) n)
 | .const (.bool b)=> .val (Z0A .bool b)
 | .const (.string s)=> .val (Z0A .str s)
 | .const (.slice none 0 0)=> .nil
 | .func f=> .clos f []
 | _=> .dead
noncomputable def State.look (σ:State) (o:Operand):Option TVal:=
 match σ.peek o with
 | .val v=>some v
 | .ref p ag=>(σ.getAt p).map λu=>{ u.alias with ag:=ag }
 | _=>none
noncomputable def State.lookAs (σ:State) (o:Operand) (τ:Ty):Option TVal:=
 match σ.peek o with
 | .nil=>match τ with | .slice e=>some ⟨.slice e,false,[],[.S]⟩ | _=>none
 | _=>σ.look o
noncomputable def State.slotOf (σ:State):Operand->Option (Nat×TVal)
 | .tmp t=>match σ.slot t with
  | .val u=>if u.anyOwn then some (t,u) else none
  | _=>none
 | _=>none
noncomputable def State.take (σ:State) (o:Operand) (τ:Ty):Option (TVal×State):=
 match σ.peek o with
 | .nil=>match τ with | .slice e=>some (⟨.slice e,false,[],[.O]⟩,σ) | _=>none
 | .val v=>if v.τ=τ then some (v,σ) else none
 | .ref p ag=>
  match σ.getAt p with
  | some u=>if u.τ=τ then
    (if u.anyOwn&&Z08 p.path then (σ.setAt p u.alias).map λσ'=>({ u with ag:=ag },σ')
     else some ({ u.alias with ag:=ag },σ))
   else none
  | none=>none
 | _=>none
noncomputable def TV.kill:TV->TV
 | .val v=>if v.noN then .val v else .dead
 | .tup v a=>if v.noN then .tup v a else .dead
 | .eptr v t=>if t.isN then .dead else .eptr v t
 | tv=>tv
noncomputable def Z2T:Option TVal->Option TVal
 | some v=>if v.noN then some v else none
 | none=>none
noncomputable def State.kill (σ:State):State:={ slots:=Z53 TV.kill σ.slots,boxes:=Z53 Z2T σ.boxes }
noncomputable def Z54:(τ:Ty)->El τ->Bool
 | .slice e,x=>List.isEmpty (α:=El e) x
 | .pair a b,x=>Z54 a x.1&&Z54 b x.2
 | _,_=>true
noncomputable def Z4j:Option TVal->Option TVal
 | some v=>bif v.noN then some v else bif Z54 v.τ v.x then some { v with tg:=v.tg.map λ_=> .S } else some v
 | none=>none
noncomputable def State.renil (σ:State):State:={ σ with boxes:=Z53 Z4j σ.boxes }
noncomputable def LIM:Nat:=2147483648
noncomputable def Z9P:List Ty->Ty
 | []=> .unit
 | [τ]=>τ
 | τ::τs=> .pair τ (Z9P τs)
inductive Mode where
 | borrow (τ:Ty) (ag:Bool) | consume (τ:Ty) (ag:Bool) | eat (τ:Ty) (ag:Bool) | inout (τ:Ty) (ag:Bool) | ptr (τ:Ty) | clos (fn:FuncId) (caps:List Ty)
 | look (τ:Ty) (ag:Bool) | rptr (τ:Ty) | rclos (fn:FuncId) (caps:List Ty)
structure Sig (R:Type) where
 modes:List Mode
 ags:List Bool
 run:List TVal->List TVal->(List TVal->List TVal->List TVal->Option R)->Option R
structure Env (R:Type) where
 tys:List (TypeId×Ty×List TypeId)
 fns:List (FuncId×Sig R)
 np:Nat:=0
noncomputable def Z0o {α:Type}:List (Nat×α)->Nat->Option α
 | [],_=>none
 | (m,a)::l,n=>if m==n then some a else Z0o l n
noncomputable def Z0z (tys:List (TypeId×Ty×List TypeId)) (t:TypeId):Option Ty:=(Z0o tys t).map (·.1)
noncomputable def Z0p (tys:List (TypeId×Ty×List TypeId)) (t:TypeId):Bool:=match Z0o tys t with | some (_,l)=> !l.isEmpty | none=>false
noncomputable def Z0a:(n i:Nat)->List Step
 | 0,_=>[]
 | 1,_=>[]
 | _+2,0=>[.fst]
 | n+2,i+1=> .snd::Z0a (n+1) i
noncomputable def Z4f (tys:List (TypeId×Ty×List TypeId)) (t:TypeId) (i:Nat):Option (List Step):=
 match Z0o tys t with
 | some (_,l)=>if i<l.length then some (Z0a l.length i) else none
 | none=>none
noncomputable def Z2y (tys:List (TypeId×Ty×List TypeId)) (t:TypeId) (i:Nat):Bool:=
 match Z0o tys t with
 | some (_,l)=>Z0p tys (l.getD i 0)
 | none=>false
noncomputable def inb (i:Int) (n:Nat):Bool:=decide (0<=i/\i<(n:Int))
noncomputable def Z8f (i j:Int) (n:Nat):Bool:=decide (0<=i/\i<=j/\j<=(n:Int))
noncomputable def sub {α:Type} (l:List α) (i j:Int):List α:=(l.take j.toNat).drop i.toNat
noncomputable def bt (s:ByteArray) (i:Int):Int:=((s.data.toList.getD i.toNat 0).toNat:Int)
noncomputable def Z3C (l:List Int):ByteArray:=⟨(l.map λn=>UInt8.ofNat n.toNat).toArray⟩
noncomputable def Z1o (s:ByteArray):List Int:=s.data.toList.map λb=>(b.toNat:Int)
noncomputable def mxI (m n:Int):Int:=if n>m then n else m
noncomputable def mnI (m n:Int):Int:=if n<m then n else m
noncomputable def lim (n:Nat):Bool:=decide (n<=LIM)
noncomputable def Z42:(τ:Ty)->El τ->El τ->Option Bool
 | .int _,a,b=>some ((a:Int)==b)
 | .bool,a,b=>some ((a:Bool)==b)
 | .str,a,b=>some (ByteArray.toList a==ByteArray.toList b)
 | .unit,_,_=>none
 | .slice _,_,_=>none
 | .pair s t,a,b=>match Z42 s a.1 b.1,Z42 t a.2 b.2 with | some p,some q=>some (p&&q) | _,_=>none
noncomputable def Z97 (op:BinOp) (k:IntKind) (a b:Int):Option (Bool×TVal):=
 match op with
 | .add=>some (true,Z0A (.int k) (k.wrap (a+b)))
 | .sub=>some (true,Z0A (.int k) (k.wrap (a-b)))
 | .mul=>some (true,Z0A (.int k) (k.wrap (a * b)))
 | .quo=>some (!decide (b=0),Z0A (.int k) (k.wrap (a.tdiv b)))
 | .rem=>some (!decide (b=0),Z0A (.int k) (a.tmod b))
 | .and=>some (true,Z0A (.int k) (k.wrap ((BitVec.ofInt k.bits a &&& BitVec.ofInt k.bits b).toNat)))
 | .or=>some (true,Z0A (.int k) (k.wrap ((BitVec.ofInt k.bits a ||| BitVec.ofInt k.bits b).toNat)))
 | .xor=>some (true,Z0A (.int k) (k.wrap ((BitVec.ofInt k.bits a ^^^ BitVec.ofInt k.bits b).toNat)))
 | .eql=>some (true,Z0A .bool (a==b))
 | .neq=>some (true,Z0A .bool (a != b))
 | .lss=>some (true,Z0A .bool (decide (a<b)))
 | .leq=>some (true,Z0A .bool (decide (a<=b)))
 | .gtr=>some (true,Z0A .bool (decide (a>b)))
 | .geq=>some (true,Z0A .bool (decide (a>=b)))
 | _=>none
noncomputable def Z98 (op:BinOp) (a b:ByteArray):Option (Bool×TVal):=
 match op with
 | .add=>some (lim (a.size+b.size),Z0A .str (a++b))
 | .eql=>some (true,Z0A .bool (a.toList==b.toList))
 | .neq=>some (true,Z0A .bool (!(a.toList==b.toList)))
 | .lss=>some (true,Z0A .bool (Op.bytesLess a.toList b.toList))
 | .leq=>some (true,Z0A .bool (Op.bytesLess a.toList b.toList||a.toList==b.toList))
 | .gtr=>some (true,Z0A .bool (!(Op.bytesLess a.toList b.toList||a.toList==b.toList)))
 | .geq=>some (true,Z0A .bool (!(Op.bytesLess a.toList b.toList)))
 | _=>none
noncomputable def Z99 (tys:List (TypeId×Ty×List TypeId)) (t:TypeId) (op:BinOp) (u v:TVal):Option (Bool×TVal):=
 match op,u,v with
 | .shl,⟨.int a,false,m,_⟩,⟨.int _,false,n,_⟩=>some (!decide ((n:Int)<0),Z0A (.int a) (a.wrap ((m:Int) * 2 ^ min (Int.toNat n) a.bits)))
 | .shr,⟨.int a,false,m,_⟩,⟨.int _,false,n,_⟩=>some (!decide ((n:Int)<0),Z0A (.int a) (Int.fdiv m (2 ^ min (Int.toNat n) a.bits)))
 | op,⟨.int a,false,m,_⟩,⟨.int b,false,n,_⟩=>if a=b then Z97 op a m n else none
 | op,⟨.str,false,a,_⟩,⟨.str,false,b,_⟩=>Z98 op a b
 | .eql,⟨.bool,false,a,_⟩,⟨.bool,false,b,_⟩=>if Z0z tys t=some .bool/\Z0p tys t=false then some (true,Z0A .bool ((a:Bool)==b)) else none
 | .neq,⟨.bool,false,a,_⟩,⟨.bool,false,b,_⟩=>if Z0z tys t=some .bool/\Z0p tys t=false then some (true,Z0A .bool (!((a:Bool)==b))) else none
 | _,_,_=>none
noncomputable def Z43 (tys:List (TypeId×Ty×List TypeId)):Nat->TypeId->Bool
 | 0,_=>false
 | n+1,t=>match Z0o tys t with
  | some (.int _,[])=>true
  | some (.bool,[])=>true
  | some (.str,[])=>true
  | some (_,a::l)=>Z43 tys n a&&l.all (Z43 tys n)
  | _=>false
noncomputable def eqV (tys:List (TypeId×Ty×List TypeId)) (t:TypeId) (op:BinOp) (u v:TVal):Option (Bool×TVal):=
 if Z43 tys 20 t&&Z0p tys t&&decide (Z0z tys t=some u.τ) then
  (if h:v.τ=u.τ then
   (match Z42 u.τ u.x (h ▸ v.x) with
    | some b=>(match op with
     | .eql=>some (true,Z0A .bool b)
     | .neq=>some (true,Z0A .bool (!b))
     | _=>none)
    | none=>none)
   else none)
 else none
noncomputable def Z5n:TVal->Option Int
 | ⟨.int .i64,false,n,_⟩=>some n
 | ⟨.int .u8,false,n,_⟩=>some n
 | _=>none
noncomputable def Z5o (σ:State) (o:Option Operand) (d:Int):Option Int:=
 match o with
 | none=>some d
 | some o=>match σ.look o with | some v=>Z5n v | none=>none
noncomputable def Z0l (tys:List (TypeId×Ty×List TypeId)) (σ:State):Op->Option (Bool×TV)
 | .move x=>match σ.peek x with | .dead=>none | .un=>none | .tup _ ags=>(match x with | .tmp t=>some (true,.tref t ags) | _=>none) | tv=>some (true,tv)
 | .unOp .neg _ x=>match σ.look x with | some ⟨.int a,false,n,_⟩=>some (true,.val (Z0A (.int a) (a.wrap (0-n)))) | _=>none
 | .unOp .not _ x=>match σ.look x with | some ⟨.bool,false,b,_⟩=>some (true,.val (Z0A .bool (!b))) | _=>none
 | .binOp op t x y _=>match σ.look x,σ.look y with | some u,some v=>(if u.ag&&v.ag then eqV tys t op u v else Z99 tys t op u v).map λr=>(r.1,.val r.2) | _,_=>none
 | .convert s t x=>
  if Z0p tys s||Z0p tys t then none else
  match Z0z tys s,Z0z tys t,σ.look x with
  | some (.int _),some (.int j),some ⟨.int _,false,n,_⟩=>some (true,.val (Z0A (.int j) (j.wrap n)))
  | some .str,some .str,some ⟨.str,false,b,_⟩=>some (true,.val (Z0A .str b))
  | some (.slice (.int .u8)),some .str,some ⟨.slice (.int .u8),false,l,_⟩=>some (true,.val (Z0A .str (Z3C l)))
  | _,_,_=>none
 | .nilCheck x=>match σ.peek x with
  | .ptr p=>if (σ.getAt p).isSome then some (true,.ptr p) else none
  | .eptr v t=>some (true,.eptr v t)
  | .eref p=>if (σ.getAt p).isSome then some (true,.eref p) else none
  | .clos f ps=>some (true,.clos f ps)
  | .sptr r τ p=>some (true,.sptr r τ p)
  | .sclos f τs v=>some (true,.sclos f τs v)
  | _=>none
 | .makeFunc (.func f) first caps=>
  if first.isEmpty then
   (match (caps.toList.map σ.peek).foldr (λtv acc=>match tv,acc with | .ptr p,some l=>some (p::l) | _,_=>none) (some []) with
    | some l=>some (true,.clos f l)
    | none=>none)
  else none
 | .load t x=>
  match Z0z tys t,σ.peek x with
  | some τ,.ptr p=>match σ.getAt p with
   | some v=>if v.τ=τ then (Z37 σ p (Z0p tys t)).map λtv=>(true,tv) else none
   | none=>none
  | some τ,.eref p=>match σ.getAt p with
   | some v=>if v.τ=τ then (Z37 σ p (Z0p tys t)).map λtv=>(true,tv) else none
   | none=>none
  | some τ,.eptr v _=>if v.τ=τ then some (true,.val { v.alias with ag:=Z0p tys t }) else none
  | some τ,.sptr r τr p=>match σ.slot r with
   | .val c=>if c.τ=τr then (match σ.getAt ⟨false,r,p⟩ with
    | some v=>if v.τ=τ then (Z37 σ ⟨false,r,p⟩ (Z0p tys t)).map λtv=>(true,tv) else none
    | none=>none) else none
   | _=>none
  | _,_=>none
 | .slice t x lo hi none=>
  match Z0z tys t,σ.look x with
  | some .str,some ⟨.str,false,s,_⟩=>
   if Z0p tys t then none else (match Z5o σ lo 0,Z5o σ hi (ByteArray.size s) with
    | some i,some j=>some (Z8f i j (ByteArray.size s),.val (Z0A .str (ByteArray.extract s i.toNat j.toNat)))
    | _,_=>none)
  | some (.slice e'),some ⟨.slice e,false,l,tg⟩=>
   if e'=e/\Z0p tys t=false then
    (match Z5o σ lo 0,Z5o σ hi (List.length (α:=El e) l) with
     | some i,some j=>some (Z8f i j (List.length (α:=El e) l),.val ⟨.slice e,false,sub (α:=El e) l i j,tg⟩)
     | _,_=>none)
   else none
  | _,_=>none
 | .fieldAddr t x i=>
  match Z4f tys t i,σ.peek x with
  | some q,.ptr p=>(match σ.getAt p with
   | some u=>if Z0z tys t=some u.τ then some (true,.ptr { p with path:=p.path++q }) else none
   | none=>none)
  | some q,.eref p=>(match σ.getAt p with
   | some u=>if Z0z tys t=some u.τ then some (true,.eref { p with path:=p.path++q }) else none
   | none=>none)
  | some q,.eptr v g=>if Z0z tys t=some v.τ then (Z04 v.τ v.x v.tg q).map λu=>(true,.eptr u g) else none
  | some q,.sptr r τr p=>if Z0z tys t=Z0d τr p then some (true,.sptr r τr (p++q)) else none
  | _,_=>none
 | .field t x i=>
  match Z4f tys t i,σ.peek x with
  | some q,.ref p true=>(match σ.getAt p with
   | some u=>if Z0z tys t=some u.τ then (Z37 σ { p with path:=p.path++q } (Z2y tys t i)).map λtv=>(true,tv) else none
   | none=>none)
  | some q,.val ⟨τ,true,y,tg⟩=>if Z0z tys t=some τ then (Z04 τ y tg q).map λu=>(true,.val { u with ag:=Z2y tys t i }) else none
  | _,_=>none
 | .indexAddr t x i=>
  match Z0z tys t,σ.peek x,σ.look i with
  | some (.slice e'),.ref p false,some n=>match σ.getAt p,Z5n n with
   | some ⟨.slice e,_,l,_⟩,some n=>if e'=e/\Z0p tys t=false then some (inb n (List.length (α:=El e) l),.eref { p with path:=p.path++[.idx n.toNat] }) else none
   | _,_=>none
  | some (.slice e'),.val ⟨.slice e,false,l,tg⟩,some n=>match Z5n n with
   | some n=>if e'=e/\Z0p tys t=false then some (inb n (List.length (α:=El e) l),.eptr ⟨e,false,List.getD (α:=El e) l n.toNat (zero e),List.replicate (Z06 e) (tg.headD .N).inner⟩ (tg.headD .N)) else none
   | none=>none
  | _,_,_=>none
 | .index t x i=>
  match Z0z tys t,σ.look x,σ.look i with
  | some .str,some ⟨.str,false,s,_⟩,some n=>match Z5n n with
   | some n=>if Z0p tys t then none else some (inb n (ByteArray.size s),.val (Z0A (.int .u8) (bt s n)))
   | none=>none
  | _,_,_=>none
 | .extract (.tmp t) i=>
  match σ.slot t with
  | .tup v ags=>if i<ags.length then (Z37 σ ⟨false,t,Z0a ags.length i⟩ (Z0v false ags i)).map λtv=>(true,tv) else none
  | .tref t' ags=>if i<ags.length then (Z37 σ ⟨false,t',Z0a ags.length i⟩ (Z0v false ags i)).map λtv=>(true,tv) else none
  | _=>none
 | .call c=>
  match c.callee,c.args.toList,c.argTypes.toList with
  | .builtin .len,[x],[t]=>
   (match Z0z tys t,σ.look x with
    | some .str,some ⟨.str,false,s,_⟩=>if Z0p tys t then none else some (true,.val (Z0A (.int .i64) (ByteArray.size s:Int)))
    | some (.slice _),some ⟨.slice e,false,l,_⟩=>if Z0p tys t then none else some (true,.val (Z0A (.int .i64) ((List.length (α:=El e) l:Nat):Int)))
    | _,_=>none)
  | .builtin .max,[x,y],_=>
   (match σ.look x,σ.look y with
    | some ⟨.int a,false,m,_⟩,some ⟨.int b,false,n,_⟩=>if a=b then some (true,.val (Z0A (.int a) (mxI m n))) else none
    | _,_=>none)
  | .builtin .min,[x,y],_=>
   (match σ.look x,σ.look y with
    | some ⟨.int a,false,m,_⟩,some ⟨.int b,false,n,_⟩=>if a=b then some (true,.val (Z0A (.int a) (mnI m n))) else none
    | _,_=>none)
  | _,_,_=>none
 | _=>none
noncomputable def Z5s (tys:List (TypeId×Ty×List TypeId)):Op->Bool
 | .move _ | .unOp .. | .binOp .. | .nilCheck _ | .makeFunc .. | .load .. | .slice .. | .fieldAddr .. | .field .. | .indexAddr .. | .index .. | .extract .. => true
 | .convert _ t _=>match Z0z tys t with | some (.slice _)=>false | _=>true
 | .call c=>match c.callee with | .builtin .len | .builtin .max | .builtin .min=>true | _=>false
 | _=>false
section
variable {R:Type}
noncomputable def Z6Y (n:Nat):List (Nat×Operand)->TVal->State->(TVal->State->Option R)->Option R
 | [],v,σ,k=>k v σ
 | (i,o)::rest,v,σ,k=>
  match Z04 v.τ v.x v.tg (Z0a n i) with
  | some u=>match σ.take o u.τ with
   | some (w,σ')=>match Z0K v.τ v.x v.tg (Z0a n i) w with
    | some r=>Z6Y n rest ⟨v.τ,v.ag,r.1,r.2⟩ σ' k
    | none=>none
   | none=>none
  | none=>none
noncomputable def Z4A (v:TVal):Tag:=v.tg.foldr Tag.meet .O
noncomputable def Z7u (e:Ty):List (Nat×Operand)->Nat->List (El e)->Tag->State->(List (El e)->Tag->State->Option R)->Option R
 | [],_,acc,t,σ,k=>k acc.reverse t σ
 | (j,o)::rest,i,acc,t,σ,k=>
  if i==j then
   match σ.take o e with
   | some (v,σ')=>match Z2I e v with
    | some x=>Z7u e rest (i+1) (x::acc) (t.meet (Z4A v)) σ' k
    | none=>none
   | none=>none
  else none
noncomputable def Z7Z (tys:List (TypeId×Ty×List TypeId)) (sT xT:TypeId) (s x:Operand) (σ:State) (k:TV->State->Option R):Option R:=
 match Z0z tys sT with
 | some (.slice e)=>
  match σ.take s (.slice e) with
  | some (v,σ1)=>
   match Z2I (.slice e) v,v.tg with
   | some l,[t]=>
    if t.own&& !v.ag&& !Z0p tys sT then
     match Z0z tys xT with
     | some (.slice e')=>
      match σ1.take x (.slice e) with
      | some (u,σ2)=>match Z2I (.slice e) u,u.tg with
       | some m,[t']=>if u.ag||Z0p tys xT then none else
         bif lim (List.length (α:=El e) l+List.length (α:=El e) m) then
         k (.val ⟨.slice e,false,(l:List (El e))++m,[(if Z06 e==0 then Tag.O else t.inner.meet t'.inner).over]⟩) σ2 else none
       | _,_=>none
      | none=>none
     | some .str=>
      match σ1.look x with
      | some ⟨.str,false,s,_⟩=>if Z0p tys xT then none else (match Z2I (.slice e) ⟨.slice (.int .u8),false,Z1o s,[]⟩ with
       | some m=>bif lim (List.length (α:=El e) l+ByteArray.size s) then k (.val ⟨.slice e,false,(l:List (El e))++m,[.O]⟩) σ1 else none
       | none=>none)
      | _=>none
     | _=>none
    else none
   | _,_=>none
  | none=>none
 | _=>none
structure Args where
 vals:List TVal
 lent:List Nat
 writes:Bool
noncomputable def Place.whole (p:Place):Bool:=p.box&&p.path.isEmpty
noncomputable def Z0n:List Mode->List Operand->State->Args->(Args->State->Option R)->Option R
 | [],[],σ,a,k=>k a σ
 | .borrow τ ag::ms,o::os,σ,a,k=>
  match σ.slotOf o with
  | some (t,u)=>
   if u.τ=τ/\u.ag=ag then Z0n ms os { σ with slots:=Z0I σ.slots t (.val u.freeze) } { a with vals:=a.vals++[u.freeze] } k
   else none
  | none=>
   match σ.lookAs o τ with
   | some v=>if v.τ=τ/\v.ag=ag then Z0n ms os σ { a with vals:=a.vals++[v] } k else none
   | none=>none
 | .consume τ ag::ms,o::os,σ,a,k=>
  match σ.take o τ with
  | some (v,σ')=>if v.tg.all Tag.own&&v.noN&&v.ag==ag then Z0n ms os σ' { a with vals:=a.vals++[v],writes:=true } k else none
  | none=>none
 | .eat τ ag::ms,o::os,σ,a,k=>
  match σ.take o τ with
  | some (v,σ')=>if v.allO&&v.ag==ag then Z0n ms os σ' { a with vals:=a.vals++[v],writes:=true } k else none
  | none=>none
 | .ptr τ::ms,o::os,σ,a,k=>
  match σ.peek o with
  | .ptr p=>if p.whole then Z0n ms os σ { a with lent:=a.lent++[p.root],writes:=true } k else none
  | _=>none
 | .clos f τs::ms,o::os,σ,a,k=>
  match σ.peek o with
  | .clos g ps=>if g==f&&ps.length==τs.length&&ps.all Place.whole then Z0n ms os σ { a with lent:=a.lent++ps.map (·.root),writes:=a.writes|| !ps.isEmpty } k else none
  | _=>none
 | _,_,_,_,_=>none
noncomputable def State.boxesAt (σ:State):List Nat->Option (List TVal)
 | []=>some []
 | r::rs=>match σ.boxAt r,σ.boxesAt rs with | some v,some l=>some (v::l) | _,_=>none
noncomputable def State.putBoxes (σ:State):List Nat->List TVal->State
 | r::rs,v::vs=>((σ.loosen true r).putBox r (some v)).putBoxes rs vs
 | _,_=>σ
noncomputable def Z4k:List Nat->Bool
 | []=>true
 | a::l=> !l.contains a&&Z4k l
noncomputable def Tag.back (stable:Bool):Tag->Tag
 | .O=> .O
 | .PS=>if stable then .PS else .PN
 | .PN=> .PN
 | .S=>if stable then .S else .N
 | .N=> .N
noncomputable def TVal.back (stable:Bool) (v:TVal):TVal:={ v with tg:=v.tg.map (Tag.back stable) }
noncomputable def Z24 (fz:Bool) (l:List TVal):List TVal:=if !fz&&l.all TVal.noN then l else l.map λv=>{ v with tg:=v.tg.map λ_=>Tag.S }
noncomputable def Z2r:List TVal->TVal
 | []=>Z0A .unit ()
 | [v]=>v
 | v::vs=>let u:=Z2r vs;⟨.pair v.τ u.τ,false,(v.x,u.x),v.tg++u.tg⟩
noncomputable def Mode.isPtr:Mode->Bool
 | .ptr _=>true
 | _=>false
noncomputable def Mode.isBorrow:Mode->Bool
 | .borrow .. => true
 | _=>false
noncomputable def Mode.noLend:Mode->Bool
 | .borrow .. | .eat .. | .consume .. => true
 | _=>false
noncomputable def Mode.isSee:Mode->Bool
 | .look .. => true
 | _=>false
noncomputable def Mode.isLook:Mode->Bool
 | .look .. | .rptr _ | .rclos .. => true
 | _=>false
noncomputable def Z5t (τ:Ty) (x:El τ):TVal:=⟨τ,false,x,List.replicate (Z06 τ) .S⟩
noncomputable def Z4o:List Ty->(τ:Ty)->El τ->Option (List TVal)
 | [],_,_=>some []
 | [τ'],τ,x=>if τ=τ' then some [Z5t τ x] else none
 | τ'::τ''::τs,.pair a b,x=>if a=τ' then (Z4o (τ''::τs) b x.2).map λl=>Z5t a x.1::l else none
 | _,_,_=>none
noncomputable def Z6Z:List TVal->TVal
 | []=>Z0A .unit ()
 | [v]=>Z5t v.τ v.x
 | v::vs=>let u:=Z6Z vs;Z5t (.pair v.τ u.τ) (v.x,u.x)
noncomputable def State.ptrVal (σ:State) (o:Operand):Option TVal:=
 match σ.peek o with
 | .ptr p=>σ.getAt p
 | .eref p=>σ.getAt p
 | .eptr u _=>some u
 | _=>none
noncomputable def State.placesVal (σ:State):List Place->Option (List TVal)
 | []=>some []
 | p::ps=>match σ.getAt p,σ.placesVal ps with | some v,some l=>some (v::l) | _,_=>none
noncomputable def Z1a:List Mode->List Operand->State->Option (List TVal)
 | [],[],_=>some []
 | .look τ ag::ms,o::os,σ=>
  match σ.lookAs o τ with
  | some v=>if v.τ=τ/\v.ag=ag then (Z1a ms os σ).map λl=>v::l else none
  | none=>none
 | .rptr τ::ms,o::os,σ=>
  match σ.ptrVal o with
  | some v=>if v.τ=τ then (Z1a ms os σ).map λl=>v::l else none
  | none=>none
 | .rclos f τs::ms,o::os,σ=>
  match σ.peek o with
  | .clos g ps=>(match σ.placesVal ps with
   | some vs=>if g==f&&decide (vs.map (·.τ)=τs) then (Z1a ms os σ).map λl=>Z6Z vs::l else none
   | none=>none)
  | .sclos g τs' v=>if g==f&&decide (τs'=τs) then (Z1a ms os σ).map λl=>v::l else none
  | _=>none
 | _,_,_=>none
noncomputable def Z1v:List Mode->List TVal->Bool
 | [],[]=>true
 | .rptr τ::ms,v::vs=>decide (v.τ=τ)&&Z1v ms vs
 | _,_=>false
noncomputable def Z6X (sig:Sig R) (os:List Operand) (cvs:List TVal) (σ:State) (k:TV->State->Option R):Option R:=
 match Z1a (sig.modes.take os.length) os σ with
 | some vals=>if Z1v (sig.modes.drop os.length) cvs then sig.run (vals++cvs) [] λres ios ext'=>
   if ios.isEmpty&&ext'.isEmpty&&res.all (λv=>Z06 v.τ==0) then
    (match res with
     | []=>k .dead σ
     | [r]=>k (.val r) σ
     | rs=>k (.tup (Z2r rs) (rs.map (·.ag))) σ) else none
  else none
 | none=>none
noncomputable def Z8a (sig:Sig R) (os:List Operand) (ps:List Place) (σ:State) (k:TV->State->Option R):Option R:=
 if (sig.modes.drop os.length).length==ps.length&&(sig.modes.drop os.length).all Mode.isPtr&&ps.all Place.whole then
 Z0n (sig.modes.take os.length) os σ ⟨[],[],!ps.isEmpty⟩ λa σ1=>
  let lent:=a.lent++ps.map (·.root)
  if Z4k lent&&(!a.writes||a.vals.all λv=>v.noN) then
   match σ1.boxesAt lent with
   | some ext=>if ext.all TVal.noN then sig.run a.vals ext λres ios ext'=>
     let stable:=a.writes||a.vals.all TVal.noN
     let σ2:=if a.writes then σ1.renil.kill else σ1
     let σ4:=σ2.putBoxes lent ext'
     if ios.isEmpty then
      (match res.map (TVal.back stable) with
       | []=>k .dead σ4
       | [r]=>k (.val r) σ4
       | rs=>k (.tup (Z2r rs) (rs.map (·.ag))) σ4) else none
    else none
   | none=>none
  else none
 else none
noncomputable def Z8w (np:Nat) (σ:State) (x:Operand) (τ:Ty):Option Nat:=
 match x with
 | .tmp r=>match σ.slot r with
  | .val u=>if decide (r<np)&&decide (u.τ=τ)&&u.anyOwn then some r else none
  | _=>none
 | _=>none
noncomputable def Z8P (np d:Nat):Bool:=decide (np<=d)
noncomputable def State.empty (σ:State) (i:Nat):State:=σ.put i .dead
noncomputable def State.hold (σ:State) (p:Place):State:=
 match p.box with
 | true=>(σ.loosen true p.root).putBox p.root none
 | false=>σ.empty p.root
noncomputable def State.refill (σ:State) (p:Place) (v:TVal):State:=
 match p.box with
 | true=>(σ.loosen true p.root).putBox p.root (some v)
 | false=>σ.put p.root (.val v)
noncomputable def Z1s:List Mode->List Operand->State->Option (List TVal)
 | [],[],_=>some []
 | .borrow τ ag::ms,o::os,σ=>
  match σ.look o with
  | some v=>if decide (v.τ=τ)&&v.ag==ag&&Z06 τ==0 then (Z1s ms os σ).map λl=>v::l else none
  | none=>none
 | _,_,_=>none
noncomputable def Z5T (sig:Sig R) (τ:Ty) (ag:Bool) (ms:List Mode) (o:Operand) (os:List Operand) (σ:State) (k:TV->State->Option R):Option R:=
 match σ.peek o with
 | .ref p ag'=>
  match σ.content p,σ.getAt p,Z1s ms os σ with
  | some c,some u,some vs=>
   if decide (u.τ=τ)&&ag'==ag&&c.allO&&u.allO&&(p.box||(σ.slot p.root).isVal) then
    sig.run ({ u with ag:=ag }::vs) [] λres ios ext'=>
     match ios with
     | [u']=>(match Z0K c.τ c.x c.tg p.path u' with
      | some r=>let σ5:=(σ.hold p).kill.refill p ⟨c.τ,c.ag,r.1,r.2⟩
       (match res with
        | []=>k .dead σ5
        | [r]=>k (.val r) σ5
        | rs=>k (.tup (Z2r rs) (rs.map (·.ag))) σ5)
      | none=>none)
     | _=>none
   else none
  | _,_,_=>none
 | _=>none
noncomputable def Z2M:List Step->Bool
 | []=>true
 | .idx _::p=>Z08 p
 | _::p=>Z2M p
noncomputable def Z4h (p:Place):TV->Bool
 | .ref q _=> !Z08 p.path&&(q.box==p.box&&q.root==p.root&&Z08 q.path)
 | .eref q=> !Z08 p.path&&(q.box==p.box&&q.root==p.root&&Z2M q.path)
 | _=>false
noncomputable def Z0X (p:Place):List TV->Nat->State->State
 | [],_,σ=>σ
 | t::l,i,σ=>Z0X p l (i+1) (match σ.slot i with | .dead=>if Z4h p t then σ.put i t else σ | _=>σ)
noncomputable def Z5d (σ:State) (p:Place):Bool:=p.box||(σ.slot p.root).isVal
noncomputable def Z9p (i j:Nat):Bool:=Nat.beq i j
noncomputable def Z3z:List Step->List Step->Bool
 | [],[]=>true
 | .fst::p,.fst::q=>Z3z p q
 | .snd::p,.snd::q=>Z3z p q
 | .idx i::p,.idx j::q=>Z9p i j&&Z3z p q
 | _,_=>false
noncomputable def Z7n:Op->Bool
 | .move _ | .nilCheck _ | .fieldAddr .. | .indexAddr .. => true
 | _=>false
noncomputable def Z4Y (i:Nat):Option Nat->Bool
 | some j=> !(j==i)
 | none=>true
noncomputable def Z35 (d:Nat) (p:Place):List Oper->Bool
 | []=>false
 | [o]=>(match o.op with | .store _ _ (.tmp t)=>t==d | _=>false)&&o.guard.isNone&&o.dst.isNone
 | o::l=>Z7n o.op&&o.guard.isNone&&Z4Y d o.dst&&(p.box||Z4Y p.root o.dst)&&Z35 d p l
noncomputable def Z6j (tys:List (TypeId×Ty×List TypeId)) (sT xT:TypeId) (p:Place) (x:Operand) (σ:State) (k:State->Option R):Option R:=
 match Z0z tys sT,Z0z tys xT with
 | some (.slice e),some (.slice _)=>
  match σ.take x (.slice e) with
  | some (u,σ2)=>
   match Z2I (.slice e) u,u.tg,σ2.content p,σ2.getAt p with
   | some m,[t'],some c,some v=>
    match Z2I (.slice e) v with
    | some l=>if c.allO&&Z5d σ2 p&&(t'.isO||(Z06 e==0&& !t'.isN))&& !u.ag&& !Z0p tys sT&& !Z0p tys xT then
      bif lim (List.length (α:=El e) l+List.length (α:=El e) m) then
       (match Z0K c.τ c.x c.tg p.path ⟨.slice e,false,(l:List (El e))++m,[.O]⟩ with
        | some rr=>k (Z0X p σ2.slots 0 ((σ2.hold p).kill.refill p ⟨c.τ,c.ag,rr.1,rr.2⟩))
        | none=>none)
      else none
     else none
    | none=>none
   | _,_,_,_=>none
  | none=>none
 | _,_=>none
noncomputable def Z8b (sig:Sig R) (τ:Ty) (ms:List Mode) (p:Place) (os:List Operand) (σ:State) (k:State->Option R):Option R:=
 Z0n ms os σ ⟨[],[],true⟩ λa σ1=>
  match σ1.content p,σ1.getAt p with
  | some c,some u=>
   if decide (u.τ=τ)&&c.allO&&u.allO&&Z5d σ1 p&&Z4k a.lent&&a.vals.all TVal.noN then
    match (σ1.hold p).boxesAt a.lent with
    | some ext=>if ext.all TVal.noN then sig.run ({ u with ag:=false }::a.vals) ext λres ios ext'=>
      match res,ios with
      | [v],[]=>if decide (v.τ=τ)&&v.ag==false&&v.allO then
        (match Z0K c.τ c.x c.tg p.path v with
         | some rr=>k (Z0X p σ1.slots 0 (((σ1.hold p).renil.kill.putBoxes a.lent ext').refill p ⟨c.τ,c.ag,rr.1,rr.2⟩))
         | none=>none)
       else none
      | _,_=>none
     else none
    | none=>none
   else none
  | _,_=>none
noncomputable def Z5Y (Γ:Env R) (σ:State) (o:Oper) (rest:List Oper):Option (Nat×Place):=
 match o.dst,o.guard,o.op with
 | some d,none,.call c=>
  match c.args.toList with
  | s::_=>
   match σ.peek s with
   | .ref p false=>
    if Z35 d p rest then
     match σ.content p with
     | some cv=>if cv.allO&&Z5d σ p&&Z2M p.path&&decide (d<σ.slots.length)&&Z8P Γ.np d&&(p.box|| !(d==p.root)) then
       (match c.callee with
        | .builtin .append=>if Z08 p.path then none else some (d,p)
        | .value f=>(match σ.peek f with
         | .clos g []=>(match Z0o Γ.fns g with
          | some sig=>(match sig.modes with
           | .eat (.slice _) false::_=>if Z08 p.path&& !p.box then none else some (d,p)
           | _=>none)
          | none=>none)
         | _=>none)
        | _=>none) else none
     | none=>none
    else none
   | _=>none
  | []=>none
 | _,_,_=>none
noncomputable def Z0N (Γ:Env R) (d:Option Nat) (type:TypeId) (σ:State) (k:TV->State->Option R):Op->Option R
 | .assign x=>
  match σ.peek x with
  | .val v=>k (.val v) σ
  | .ref p ag=>(match σ.getAt p with
   | some u=>(match σ.take x u.τ with
    | some (v,σ')=>k (.val v) σ'
    | none=>none)
   | none=>none)
  | .nil=>(match Z0z Γ.tys type with
   | some (.slice e)=>k (.val ⟨.slice e,false,[],[.O]⟩) σ
   | _=>none)
  | .dead=>none
  | .un=>none
  | .tup .. => none
  | tv=>k tv σ
 | .alloc t=>
  match d,Z0z Γ.tys t with
  | some i,some τ=>if i<σ.slots.length then k (.ptr ⟨true,i,[]⟩) (((σ.loosen true i).unpoint i).putBox i (some ⟨τ,false,zero τ,List.replicate (Z06 τ) .O⟩)) else none
  | _,_=>none
 | .box t x=>
  match d,Z0z Γ.tys t with
  | some i,some τ=>match Z8w Γ.np σ x τ with
   | some r=>k (.sptr r τ []) σ
   | none=>match σ.take x τ with
    | some (v,σ')=>if i<σ'.slots.length then k (.ptr ⟨true,i,[]⟩) (((σ'.loosen true i).unpoint i).putBox i (some v)) else none
    | none=>none
  | _,_=>none
 | .build t ps=>
  match Z0o Γ.tys t with
  | some (τ,l)=>if l.isEmpty|| !(ps.toList.all λp=>decide (p.1<l.length)) then none else Z6Y l.length ps.toList ⟨τ,true,zero τ,List.replicate (Z06 τ) .O⟩ σ λv σ'=>k (.val v) σ'
  | none=>none
 | .buildSlice t n ps=>
  match Z0z Γ.tys t with
  | some (.slice e)=>if ps.size==n&& !Z0p Γ.tys t&&decide (n * size e<=16777216) then Z7u e ps.toList 0 [] .O σ λl tg σ'=>k (.val ⟨.slice e,false,l,[tg.over]⟩) σ' else none
  | _=>none
 | .store t a x=>
  match Z0z Γ.tys t,σ.peek a with
  | some τ,.ptr p=>match σ.take x τ with
   | some (v,σ')=>(match (σ'.loosen true p.root).setAt p v with
    | some σ''=>k .dead σ''
    | none=>none)
   | none=>none
  | some τ,.eref p=>match σ.take x τ with
   | some (v,σ')=>if v.allO&& !Z08 p.path&&(p.box||(σ'.slot p.root).isVal) then
     (match (σ'.content p) with
      | some r=>if r.allO then
        (match ((σ'.loosen p.box p.root).kill.setAt p v) with
        | some σ''=>k .dead (Z0X p σ'.slots 0 σ'')
        | none=>none) else none
      | none=>none) else none
   | none=>none
  | _,_=>none
 | .convert s t x=>
  if Z0p Γ.tys s||Z0p Γ.tys t then none else
  match Z0z Γ.tys s,Z0z Γ.tys t,σ.look x with
  | some .str,some (.slice (.int .u8)),some ⟨.str,false,b,_⟩=>bif lim (ByteArray.size b) then k (.val ⟨.slice (.int .u8),false,Z1o b,[.O]⟩) σ else none
  | _,_,_=>none
 | .makeSlice t n c=>
  if Z0p Γ.tys t then none else
  match Z0z Γ.tys t,σ.look n,σ.look c with
  | some (.slice e),some ⟨.int .i64,false,m,_⟩,some ⟨.int .i64,false,m',_⟩=>
   bif decide ((0:Int)<=m/\(m:Int)<=m'/\(m':Int)<=(LIM:Int)) then k (.val ⟨.slice e,false,List.replicate (Int.toNat m) (zero e),[.O]⟩) σ else none
  | _,_,_=>none
 | .call c=>
  match c.callee with
  | .builtin .append=>
   (match c.args.toList,c.argTypes.toList with
    | [s,x],[sT,xT]=>Z7Z Γ.tys sT xT s x σ k
    | _,_=>none)
  | .value f=>
   (match σ.peek f with
    | .clos g ps=>(match Z0o Γ.fns g with
     | some sig=>if sig.modes.all Mode.isLook&& !sig.modes.isEmpty then
       (match σ.placesVal ps with
       | some vs=>Z6X sig c.args.toList vs σ k
       | none=>none)
      else (match sig.modes,c.args.toList,ps with
      | .inout τ ag::ms,o::os,[]=>Z5T sig τ ag ms o os σ k
      | _,os,ps=>Z8a sig os ps σ k)
     | none=>none)
    | .sclos g τs v=>(match Z0o Γ.fns g,Z4o τs v.τ v.x with
     | some sig,some vs=>if sig.modes.all Mode.isLook&& !sig.modes.isEmpty then Z6X sig c.args.toList vs σ k else none
     | _,_=>none)
    | _=>none)
  | _=>none
 | _=>none
noncomputable def opC (Γ:Env R) (d:Option Nat) (type:TypeId) (σ:State) (k:TV->State->Option R) (op:Op):Option R:=
 match Z0l Γ.tys σ op with
 | some (g,tv)=>bif g then k tv σ else none
 | none=>Z0N Γ d type σ k op
noncomputable def Z4G (Γ:Env R) (o:Oper) (σ:State) (k:State->Option R):Option R:=
 match o.op with
 | .pick c a b=>
  match σ.look c with
  | some ⟨.bool,false,t,_⟩=>
   bif t then (match Z0l Γ.tys σ (.move a) with | some (_,tv)=>k (σ.puto o.dst tv) | none=>none)
   else (match Z0l Γ.tys σ (.move b) with | some (_,tv)=>k (σ.puto o.dst tv) | none=>none)
  | _=>none
 | op=>opC Γ o.dst o.type σ (λtv σ'=>k (σ'.puto o.dst tv)) op
noncomputable def State.know (σ:State) (g:Nat) (b:Bool):State:={ σ with slots:=Z0I σ.slots g (.val (Z0A .bool b)) }
noncomputable def Z4F (np:Nat) (d:Option Nat):Bool:=match d with | some i=>decide (np<=i) | none=>true
noncomputable def Z1x (Γ:Env R) (all:List Oper) (o:Oper) (σ:State) (k:State->Option R):Option R:=
 if Z4F Γ.np o.dst then
  match o.guard with
  | none=>Z4G Γ o σ k
  | some (j,want)=>
   match (all[j]?).bind (·.dst) with
   | some g=>
    match σ.slot g with
    | .val ⟨.bool,false,b,_⟩=>
     bif b then (if want then Z4G Γ o (σ.know g true) k else k ((σ.know g true).puto o.dst .un))
     else (if want then k ((σ.know g false).puto o.dst .un) else Z4G Γ o (σ.know g false) k)
    | .un=>k (σ.puto o.dst .un)
    | _=>none
   | none=>none
 else none
noncomputable def Z4K (Γ:Env R) (p:Place):List Oper->State->(State->Option R)->Option R
 | [],_,_=>none
 | [o],σ,k=>
  match o.op with
  | .store t y _=>(match Z0z Γ.tys t,σ.peek y with
   | some (.slice _),.eref q=>if q.box==p.box&&q.root==p.root&& !Z0p Γ.tys t then bif Z3z q.path p.path then k σ else none else none
   | some (.slice _),.ptr q=>if q.box==p.box&&q.root==p.root&& !Z0p Γ.tys t then bif Z3z q.path p.path then k σ else none else none
   | _,_=>none)
  | _=>none
 | o::l,σ,k=>
  if Z4F Γ.np o.dst then
   (match Z0l Γ.tys σ o.op with
    | some (g,tv)=>bif g then Z4K Γ p l (σ.puto o.dst tv) k else none
    | none=>none)
  else none
noncomputable def Z8q (Γ:Env R) (d:Nat) (p:Place) (o:Oper) (σ:State) (k:State->Option R):Option R:=
 match o.op with
 | .call c=>
  match c.callee with
  | .builtin .append=>
   (match c.args.toList,c.argTypes.toList with
    | [_,x],[sT,xT]=>Z6j Γ.tys sT xT p x σ λσ'=>k (σ'.puto (some d) .dead)
    | _,_=>none)
  | .value f=>
   (match σ.peek f with
    | .clos g []=>(match Z0o Γ.fns g with
     | some sig=>(match sig.modes,c.args.toList with
      | .eat (.slice e) false::ms,_::os=>Z8b sig (.slice e) ms p os σ λσ'=>k (σ'.puto (some d) .dead)
      | _,_=>none)
     | none=>none)
    | _=>none)
  | _=>none
 | _=>none
noncomputable def Z4n (Γ:Env R) (d:Nat) (p:Place) (o:Oper) (rest:List Oper) (σ:State) (k:State->Option R):Option R:=
 Z8q Γ d p o σ λσ'=>Z4K Γ p rest σ' k
noncomputable def Z5q:Op->Bool
 | .call c=>(match c.callee with | .builtin .append=>true | .value _=>true | _=>false)
 | _=>false
noncomputable def Z1n (all:List Oper):List Nat->Option (List Oper)
 | []=>some []
 | i::l=>match all[i]?,Z1n all l with | some o,some r=>some (o::r) | _,_=>none
noncomputable def Z5K (Γ:Env R) (all:List Oper):List Nat->State->(State->Option R)->Option R
 | [],σ,k=>k σ
 | i::rest,σ,k=>
  match all[i]? with
  | some o=>
   if Z5q o.op then
    (match (Z1n all rest).bind (Z5Y Γ σ o) with
     | some (d,p)=>(match Z1n all rest with | some l=>Z4n Γ d p o l σ k | none=>none)
     | none=>Z1x Γ all o σ λσ'=>Z5K Γ all rest σ' k)
   else Z1x Γ all o σ λσ'=>Z5K Γ all rest σ' k
  | none=>none
noncomputable def Z1B (Γ:Env R) (op:Op):Bool:=
 match op with
 | .store .. => false
 | .call c=>match c.callee with
  | .value (.func f)=>match Z0o Γ.fns f with
   | some sig=>sig.modes.all Mode.isBorrow||(sig.modes.all Mode.isSee&& !sig.modes.isEmpty)
   | none=>false
  | .value _=>false
  | _=>true
 | _=>true
noncomputable def Z1O (Γ:Env R) (op:Op):Bool:=
 match op with
 | .store .. => false
 | .call c=>match c.callee with
  | .value (.func f)=>match Z0o Γ.fns f with
   | some sig=>sig.modes.all Mode.noLend||(sig.modes.all Mode.isSee&& !sig.modes.isEmpty)
   | none=>false
  | .value _=>false
  | _=>true
 | _=>true
noncomputable def Z2f (σ:State):Op->Bool
 | .load _ x=>match σ.peek x with | .ptr _=>true | _=>false
 | .convert _ _ x=>match σ.peek x with | .val ⟨.int _,_,_,_⟩=>true | _=>false
 | _=>true
noncomputable def Z1A (tys:List (TypeId×Ty×List TypeId)) (op:Op):Bool:=match op with | .pick .. => true | op=>Z5s tys op
inductive Plan where
 | done
 | go (i:Nat) (p:Plan)
 | gob (i:Nat) (p:Plan)
 | alt (i:Nat) (p q:Plan)
noncomputable def Z88 (x y:Option R):Option R:=match x with | some _=>y | none=>none
noncomputable def Z4S (f:Nat->Option Plan):List Nat->Option Plan
 | []=>some .done
 | [i]=>(f i).map (.go i)
 | i::l=>match f i,Z4S f l with | some p,some q=>some (.alt i p q) | _,_=>none
noncomputable def Z1b (Γ:Env R) (ops:Array Oper):Nat->Array Bool->Option Plan
 | 0,listed=>if (Region.ready .any ops listed).isEmpty then some .done else none
 | n+1,listed=>
  let rs:=Region.ready .any ops listed
  match rs.find? (λi=>match ops[i]? with
    | some o=>Z1A Γ.tys o.op&&Region.free .any ops listed i&&(List.range ops.size).all λj=>j==i||listed.getD j true ||
      (match ops[j]? with | some oj=>oj.after.any (λe=>Region.binds .any e&&e.on==i)||Z1B Γ oj.op | none=>true)
    | none=>false) with
  | some i=>(Z1b Γ ops n (listed.setIfInBounds i true)).map (.go i)
  | none=>
   match rs.find? (λi=>match ops[i]? with
     | some o=>Z1A Γ.tys o.op&&Region.free .any ops listed i&&(List.range ops.size).all λj=>j==i||listed.getD j true ||
       (match ops[j]? with | some oj=>oj.after.any (λe=>Region.binds .any e&&e.on==i)||Z1O Γ oj.op | none=>true)
     | none=>false) with
   | some i=>(Z1b Γ ops n (listed.setIfInBounds i true)).map (.gob i)
   | none=>Z4S (λi=>Z1b Γ ops n (listed.setIfInBounds i true)) rs
noncomputable def Z13 (all:List Oper):Nat->Plan->Option (List Nat)
 | _,.done=>some []
 | i,.go j p=>match all[j]? with
  | some o=>if o.after.any (λe=>Region.binds .any e&&e.on==i) then (Z13 all j p).map (j:: ·) else none
  | none=>none
 | _,_=>none
noncomputable def Z29 (Γ:Env R) (all:List Oper):Plan->State->(State->Option R)->Option R
 | .done,σ,k=>k σ
 | .go i p,σ,k=>
  match all[i]? with
  | some o=>
   if Z5q o.op then
    (match ((Z13 all i p).bind (Z1n all)).bind (Z5Y Γ σ o) with
     | some (d,q)=>(match (Z13 all i p).bind (Z1n all) with | some l=>Z4n Γ d q o l σ k | none=>none)
     | none=>Z1x Γ all o σ λσ'=>Z29 Γ all p σ' k)
   else Z1x Γ all o σ λσ'=>Z29 Γ all p σ' k
  | none=>none
 | .gob i p,σ,k=>
  match all[i]? with
  | some o=>bif Z2f σ o.op then Z1x Γ all o σ λσ'=>Z29 Γ all p σ' k else none
  | none=>none
 | .alt i p q,σ,k=>
  match all[i]? with
  | some o=>Z88 (Z1x Γ all o σ λσ'=>Z29 Γ all p σ' k) (Z29 Γ all q σ k)
  | none=>none
inductive Ex where
 | normal | exit (id:Nat) | ret
abbrev Z84 (R:Type):=Ex->State->Option R
abbrev Z1e (R:Type):=State->Z84 R->Option R
inductive HT where
 | o | x (i:Nat) | t (a b:HT)
noncomputable def HT.l:HT->HT
 | .t a _=>a
 | _=> .o
noncomputable def HT.r:HT->HT
 | .t _ b=>b
 | _=> .o
noncomputable def Z25:List Nat->Nat->List TV->List TV
 | _,_,[]=>[]
 | ks,i,tv::l=>(if ks.contains i then tv else .dead)::Z25 ks (i+1) l
noncomputable def Z3e:List Nat->Nat->List (Option TVal)->List (Option TVal)
 | _,_,[]=>[]
 | ks,i,b::l=>(if ks.contains i then b else none)::Z3e ks (i+1) l
noncomputable def State.forget (σ:State) (ks bs:List Nat):State:=⟨Z25 ks 0 σ.slots,Z3e bs 0 σ.boxes⟩
noncomputable def Z3x (body:Z1e R) (fN:State->State) (fX:Ex->State->State):Nat->Z1e R
 | 0,_,_=>none
 | n+1,σ,k=>body σ λe σ'=>match e with
  | .normal=>Z3x body fN fX n (fN σ') k
  | e=>k e (fX e σ')
noncomputable def Z0T (Γ:Env R) (X:List (Z1e R)):HT->Code->Z1e R
 | .x i,_=>λσ k=>Z0v (λ_ _=>none) X i σ k
 | _,.skip=>λσ k=>k .normal σ
 | _,.region _ ops draw=>λσ k=>
  if draw then
   (match (if Region.noSelect ops then Z1b Γ ops ops.size (Array.replicate ops.size false) else none) with
    | some l=>Z29 Γ ops.toList l σ λσ'=>k .normal σ'
    | none=>none)
  else Z5K Γ ops.toList (List.range ops.size) σ λσ'=>k .normal σ'
 | h,.seq a b=>λσ k=>Z0T Γ X h.l a σ λe σ'=>match e with
  | .normal=>Z0T Γ X h.r b σ' k
  | e=>k e σ'
 | h,.cond (.tmp t) a b=>λσ k=>
  match σ.slot t with
  | .val ⟨.bool,false,x,_⟩=>bif x then Z0T Γ X h.l a (σ.know t true) k else Z0T Γ X h.r b (σ.know t false) k
  | _=>none
 | h,.cond (.const (.bool x)) a b=>λσ k=>bif x then Z0T Γ X h.l a σ k else Z0T Γ X h.r b σ k
 | h,.block id c=>λσ k=>Z0T Γ X h.l c σ λe σ'=>match e with
  | .exit j=>if j==id then k .normal σ' else k (.exit j) σ'
  | e=>k e σ'
 | _,.exit id=>λσ k=>k (.exit id) σ
 | h,.scope c=>λσ k=>Z0T Γ X h.l c σ k
 | _,.ret=>λσ k=>k .ret σ
 | _,_=>λ_ _=>none
noncomputable def Z0h (n:Nat):List Mode->List TVal->Nat->List TV
 | .borrow _ ag::ms,v::vs,j=> .val { v with ag:=ag,tg:=List.replicate (Z06 v.τ) .S }::Z0h n ms vs j
 | .consume _ ag::ms,v::vs,j=> .val { v with ag:=ag }::Z0h n ms vs j
 | .eat _ ag::ms,v::vs,j=> .val { v with ag:=ag }::Z0h n ms vs j
 | .inout _ ag::ms,v::vs,j=> .val { v with ag:=ag }::Z0h n ms vs j
 | .ptr _::ms,vs,j=> .ptr ⟨true,n+j,[]⟩::Z0h n ms vs (j+1)
 | .look _ ag::ms,v::vs,j=> .val { v with ag:=ag,tg:=List.replicate (Z06 v.τ) .S }::Z0h n ms vs j
 | .rptr _::ms,v::vs,j=> .eptr (Z5t v.τ v.x) .S::Z0h n ms vs j
 | .rclos f τs::ms,v::vs,j=> .sclos f τs (Z5t v.τ v.x)::Z0h n ms vs j
 | .clos f τs::ms,vs,j=> .clos f ((List.range τs.length).map λi=>⟨true,n+j+i,[]⟩)::Z0h n ms vs (j+τs.length)
 | _,_,_=>[]
noncomputable def Z1S {α:Type} (d:α):Nat->List α->List α
 | 0,_=>[]
 | n+1,[]=>d::Z1S d n []
 | n+1,a::l=>a::Z1S d n l
noncomputable def Z3Z (ntmps:Nat) (modes:List Mode) (vals ext:List TVal):State:=
 { slots:=Z1S .dead ntmps (Z0h ntmps modes vals 0),boxes:=Z1S none ntmps []++ext.map some }
noncomputable def Z1Y (tys:List (TypeId×Ty×List TypeId)):List ResultVar->List Bool->State->List TVal->Option (List TVal×State)
 | [],_,σ,acc=>some (acc.reverse,σ)
 | .tmp t::rs,ag::ags,σ,acc=>
  (match σ.look (.tmp t) with
   | some v=>if v.ag==ag then (match σ.take (.tmp t) v.τ with
    | some (u,σ')=>Z1Y tys rs ags σ' (u::acc)
    | none=>none) else none
   | none=>none)
 | .cell a ty::rs,ag::ags,σ,acc=>
  (match Z0z tys ty,σ.slot a with
   | some τ,.ptr p=>(match σ.getAt p with
    | some v=>if v.τ=τ/\Z0p tys ty=ag/\Z08 p.path then (match σ.setAt p v.alias with
      | some σ'=>Z1Y tys rs ags σ' ({ v with ag:=ag }::acc)
      | none=>none) else none
    | none=>none)
   | _,_=>none)
 | _,_,_,_=>none
noncomputable def ioC (np:Nat):List Mode->Nat->State->Option (List TVal×State)
 | [],_,σ=>some ([],σ)
 | .inout τ ag::ms,i,σ=>
  match σ.take (.tmp i) τ with
  | some (u,σ')=>if decide (i<np)&&u.allO&&u.ag==ag then (ioC np ms (i+1) σ').map λr=>(u::r.1,r.2) else none
  | none=>none
 | _::ms,i,σ=>ioC np ms (i+1) σ
noncomputable def Z2L:List Mode->List Ty
 | .inout τ _::ms=>τ::Z2L ms
 | _::ms=>Z2L ms
 | []=>[]
noncomputable def Z2W:List TVal->List TVal->Bool
 | [],[]=>true
 | u::us,v::vs=>decide (u.τ=v.τ)&&Z2W us vs
 | _,_=>false
noncomputable def Z8l (Γ:Env R) (X:List (Z1e R)) (ht:HT) (fz:Bool) (fn:Func) (modes:List Mode) (ags:List Bool) (vals ext:List TVal)
  (k:List TVal->List TVal->List TVal->Option R):Option R:=
 match fn.body with
 | none=>none
 | some c=>Z0T Γ X ht c (Z3Z fn.ntmps modes vals ext) λe σ=>
  match e with
  | .exit _=>none
  | _=>match Z1Y Γ.tys fn.results.toList ags σ [] with
   | some (res,σ1)=>(match ioC Γ.np modes 0 σ1 with
    | some (ios,σ')=>(match σ'.boxesAt ((List.range ext.length).map (fn.ntmps+ ·)) with
     | some ext'=>if decide (σ'.slots.length=fn.ntmps)&&Z2W ext ext'&&ext'.all TVal.noN&&((!fz&&res.all TVal.noN)||(ios.isEmpty&&ext'.all λv=>v.tg.all λt=> !t.own)) then k (Z24 fz res) ios ext' else none
     | none=>none)
    | none=>none)
   | none=>none
end
end Go.PI
namespace Go.PI
def Z05 (w:World) (b o n:Nat):Option (List Value):=
 match w.heap[b]? with
 | some (.cells c _ _)=>if o+n<=c.size then some ((c.toList.drop o).take n) else none
 | _=>none
def Z41 (c:Array Value) (fr:Nat×Nat):Prop:=∀ j,j<c.size->¬ (fr.1<=j/\j<fr.2)
def Row (w:World) (b n:Nat):Prop:=∃ c T fr,w.heap[b]? = some (.cells c T fr)/\n<=c.size/\Z41 c fr
def Z2D (w:World) (b:Nat):Prop:=∃ c T fr,w.heap[b]? = some (.cells c T fr)/\¬ (fr.1<=c.size/\c.size<fr.2)
def Z3j (e:Ty) (w:World) (b n:Nat):Prop:=Row w b n/\(e= .int .u8\/Z2D w b)
def Z5h (St Al:Nat->Prop):Tag->Nat->Prop
 | .S,b=>St b
 | .PS,b=>St b
 | _,b=>Al b
def Rp (w:World) (F:Nat->Nat) (St Al:Nat->Prop):(τ:Ty)->List Tag->List Value->El τ->List Nat->Prop
 | .int k,tg,cs,x,fp=>cs=[.int k x]/\tg=[]/\fp=[]
 | .bool,tg,cs,x,fp=>cs=[.bool x]/\tg=[]/\fp=[]
 | .str,tg,cs,x,fp=>cs=[.string x]/\tg=[]/\fp=[]
 | .unit,tg,cs,_,fp=>cs=[]/\tg=[]/\fp=[]
 | .pair a b,tg,cs,x,fp=>∃ t1 t2 c1 c2 f1 f2,tg=t1++t2/\cs=c1++c2/\fp=f1++f2/\Rp w F St Al a t1 c1 x.1 f1/\Rp w F St Al b t2 c2 x.2 f2
 | .slice e,tg,cs,x,fp=>∃ t a cap,tg=[t]/\cs=[.slice a (List.length (α:=El e) x) cap]/\List.length (α:=El e) x<=cap /\
   ((t.own=true/\a=none/\x=[]/\cap=0/\fp=[]) \/
    (t.own=true/\∃ b o fps,a=some ⟨b,o,none⟩/\Al b/\fp=b::List.flatten fps/\fps.length=List.length (α:=El e) x/\Z3j e w b (o+cap * size e) /\
     F b=o+List.length (α:=El e) x * size e /\
     ∀ k (h:k<List.length (α:=El e) x),∃ cs',Z05 w b (o+k * size e) (size e)=some cs'/\Rp w F St Al e (List.replicate (Z06 e) t.inner) cs' (List.get (α:=El e) x ⟨k,h⟩) (fps.getD k [])) \/
    (t.own=false/\fp=[]/\(x=[]\/∃ b o,a=some ⟨b,o,none⟩/\Z5h St Al t b/\o+List.length (α:=El e) x * size e<=F b /\
     ∀ k (h:k<List.length (α:=El e) x),∃ cs',Z05 w b (o+k * size e) (size e)=some cs'/\Rp w F St Al e (List.replicate (Z06 e) t.inner) cs' (List.get (α:=El e) x ⟨k,h⟩) [])))
theorem Z0Y {w:World} {b o n:Nat} {cs:List Value} (h:Z05 w b o n=some cs):b<w.heap.size:=by
 unfold Z05 at h
 split at h
 ·rename_i hb;exact (Array.getElem?_eq_some_iff.1 hb).1
 ·cases h
theorem Z1E {w:World} {b o n:Nat} {cs:List Value} (h:Z05 w b o n=some cs):cs.length=n:=by
 unfold Z05 at h
 split at h
 ·split at h
  ·cases h;simp;omega
  ·cases h
 ·cases h
theorem Row.lt {w:World} {b n:Nat} (h:Row w b n):b<w.heap.size:=by
 obtain ⟨c,T,fr,hb,_⟩:=h;exact (Array.getElem?_eq_some_iff.1 hb).1
theorem Row.cells {w:World} {b n o m:Nat} (h:Row w b n) (hn:o+m<=n):∃ cs,Z05 w b o m=some cs:=by
 obtain ⟨c,T,fr,hb,hs,_⟩:=h
 exact ⟨_,by unfold Z05;rw [hb];simp only [];rw [if_pos (by omega)]⟩
theorem Row.mono {w:World} {b n m:Nat} (h:Row w b n) (hm:m<=n):Row w b m:=by
 obtain ⟨c,T,fr,hb,hs,ht⟩:=h;exact ⟨c,T,fr,hb,by omega,ht⟩
theorem Z3j.lt {e:Ty} {w:World} {b n:Nat} (h:Z3j e w b n):b<w.heap.size:=h.1.lt
theorem Z3j.cells {e:Ty} {w:World} {b n o m:Nat} (h:Z3j e w b n) (hn:o+m<=n):∃ cs,Z05 w b o m=some cs:=h.1.cells hn
theorem Z3j.mono {e:Ty} {w:World} {b n m:Nat} (h:Z3j e w b n) (hm:m<=n):Z3j e w b m:=⟨h.1.mono hm,h.2⟩
section
variable {w:World} {F:Nat->Nat} {St Al:Nat->Prop}
theorem Rp.len:{τ:Ty}->{tg:List Tag}->{cs:List Value}->{x:El τ}->{fp:List Nat}->Rp w F St Al τ tg cs x fp->cs.length=size τ/\tg.length=Z06 τ
 | .int _,_,_,_,_,h=>by obtain ⟨rfl,rfl,rfl⟩:=h;exact ⟨rfl,rfl⟩
 | .bool,_,_,_,_,h=>by obtain ⟨rfl,rfl,rfl⟩:=h;exact ⟨rfl,rfl⟩
 | .str,_,_,_,_,h=>by obtain ⟨rfl,rfl,rfl⟩:=h;exact ⟨rfl,rfl⟩
 | .unit,_,_,_,_,h=>by obtain ⟨rfl,rfl,rfl⟩:=h;exact ⟨rfl,rfl⟩
 | .slice _,_,_,_,_,h=>by obtain ⟨t,a,cap,rfl,rfl,_⟩:=h;exact ⟨rfl,rfl⟩
 | .pair a b,_,_,_,_,h=>by
  obtain ⟨t1,t2,c1,c2,f1,f2,rfl,rfl,rfl,h1,h2⟩:=h
  have i1:=Rp.len h1
  have i2:=Rp.len h2
  simp [size,Z06,i1,i2]
theorem Rp.lt:{τ:Ty}->{tg:List Tag}->{cs:List Value}->{x:El τ}->{fp:List Nat}->Rp w F St Al τ tg cs x fp->∀ b∈fp,b<w.heap.size
 | .int _,_,_,_,_,h=>by obtain ⟨rfl,rfl,rfl⟩:=h;simp
 | .bool,_,_,_,_,h=>by obtain ⟨rfl,rfl,rfl⟩:=h;simp
 | .str,_,_,_,_,h=>by obtain ⟨rfl,rfl,rfl⟩:=h;simp
 | .unit,_,_,_,_,h=>by obtain ⟨rfl,rfl,rfl⟩:=h;simp
 | .slice e,_,_,_,_,h=>by
  obtain ⟨t,a,cap,rfl,rfl,_,h⟩:=h
  rcases h with ⟨_,_,_,_,rfl⟩ | ⟨_,b,o,fps,_,_,rfl,hl,hr,_,he⟩ | ⟨_,rfl,_⟩
  ·simp
  ·intro c hc
   rcases List.mem_cons.1 hc with rfl | hc
   ·exact hr.lt
   ·obtain ⟨f,hf,hcf⟩:=List.mem_flatten.1 hc
    obtain ⟨k,hk,rfl⟩:=List.mem_iff_getElem.1 hf
    obtain ⟨cs',_,hk'⟩:=he k (by omega)
    refine Rp.lt hk' c ?_
    rw [List.getD_eq_getElem?_getD,List.getElem?_eq_getElem hk];exact hcf
  ·simp
 | .pair a b,_,_,_,_,h=>by
  obtain ⟨t1,t2,c1,c2,f1,f2,rfl,rfl,rfl,h1,h2⟩:=h
  intro c hc
  rcases List.mem_append.1 hc with hc | hc
  ·exact Rp.lt h1 c hc
  ·exact Rp.lt h2 c hc
def Z07 (w:World) (F:Nat->Nat) (w':World) (F':Nat->Nat) (b:Nat):Prop:=
 F b<=F' b/\(∀ o n cs,o+n<=F b->Z05 w b o n=some cs->Z05 w' b o n=some cs)/\(∀ n,Row w b n->Row w' b n)/\(Z2D w b->Z2D w' b)
theorem Z07.rowE {w:World} {F:Nat->Nat} {w':World} {F':Nat->Nat} {b:Nat} (h:Z07 w F w' F' b) {e:Ty} {n:Nat} (hr:Z3j e w b n):Z3j e w' b n:=⟨h.2.2.1 n hr.1,hr.2.imp id h.2.2.2⟩
theorem Z07.refl (w:World) (F:Nat->Nat) (b:Nat):Z07 w F w F b:=⟨Nat.le_refl _,λ_ _ _ _ h=>h,λ_ h=>h,λh=>h⟩
theorem Z07.trans {w1 w2 w3:World} {F1 F2 F3:Nat->Nat} {b:Nat} (h:Z07 w1 F1 w2 F2 b) (k:Z07 w2 F2 w3 F3 b):Z07 w1 F1 w3 F3 b:=
 ⟨Nat.le_trans h.1 k.1,λo n cs hn hc=>k.2.1 o n cs (Nat.le_trans hn h.1) (h.2.1 o n cs hn hc),λn hr=>k.2.2.1 n (h.2.2.1 n hr),λhm=>k.2.2.2 (h.2.2.2 hm)⟩
theorem Z07.of_block {w w':World} {F F':Nat->Nat} {b:Nat} (h:w'.heap[b]? = w.heap[b]?) (hF:F b<=F' b):Z07 w F w' F' b:=
 ⟨hF,λo n cs _ hc=>by unfold Z05 at *;rw [h];exact hc,λn hr=>by unfold Row at *;rw [h];exact hr,λhr=>by unfold Z2D at *;rw [h];exact hr⟩
theorem Tag.inner_own_false {t:Tag} (h:t.own=false):t.inner.own=false:=by cases t<;>simp_all [Tag.own,Tag.inner]
theorem Rp.pres {w':World} {F':Nat->Nat} {St' Al':Nat->Prop} (hSt:∀ b,St b->St' b) (hAl:∀ b,b<w.heap.size->Al b->Al' b) (hS:∀ b,St b->Z07 w F w' F' b) :
  {τ:Ty}->{tg:List Tag}->{cs:List Value}->{x:El τ}->{fp:List Nat}->Rp w F St Al τ tg cs x fp ->
  (∀ b∈fp,Z07 w F w' F' b/\F' b=F b)->((∀ t∈tg,t.isN=false)\/∀ b,b<w.heap.size->Al b->Z07 w F w' F' b)->Rp w' F' St' Al' τ tg cs x fp
 | .int _,_,_,_,_,h,_,_=>h
 | .bool,_,_,_,_,h,_,_=>h
 | .str,_,_,_,_,h,_,_=>h
 | .unit,_,_,_,_,h,_,_=>h
 | .pair a b,_,_,_,_,h,hf,hN=>by
  obtain ⟨t1,t2,c1,c2,f1,f2,rfl,rfl,rfl,h1,h2⟩:=h
  refine ⟨t1,t2,c1,c2,f1,f2,rfl,rfl,rfl,Rp.pres hSt hAl hS h1 (λb hb=>hf b (List.mem_append_left _ hb)) ?_,Rp.pres hSt hAl hS h2 (λb hb=>hf b (List.mem_append_right _ hb)) ?_⟩
  ·exact hN.imp (λh t ht=>h t (List.mem_append_left _ ht)) id
  ·exact hN.imp (λh t ht=>h t (List.mem_append_right _ ht)) id
 | .slice e,_,_,x,_,h,hf,hN=>by
  obtain ⟨t,a,cap,rfl,rfl,hlc,h⟩:=h
  have hNe:((∀ t'∈List.replicate (Z06 e) t.inner,t'.isN=false)\/∀ b,b<w.heap.size->Al b->Z07 w F w' F' b):=
   hN.imp (λh t' ht'=>by
    obtain ⟨_,rfl⟩:=List.mem_replicate.1 ht'
    have:=h t (by simp)
    cases t<;>simp_all [Tag.isN,Tag.inner]) id
  refine ⟨t,a,cap,rfl,rfl,hlc,?_⟩
  rcases h with h | ⟨ho,b,o,fps,ha,hal,rfl,hl,hr,hF,he⟩ | ⟨ho,rfl,h⟩
  ·exact .inl h
  ·refine .inr (.inl ⟨ho,b,o,fps,ha,hAl b hr.lt hal,rfl,hl,?_,?_,λk hk=> ?_⟩)
   ·exact ((hf b (by simp)).1).rowE hr
   ·rw [(hf b (by simp)).2];exact hF
   ·obtain ⟨cs',hc,hk'⟩:=he k hk
    refine ⟨cs',((hf b (by simp)).1).2.1 _ _ _ ?_ hc,Rp.pres hSt hAl hS hk' (λc hcm=>hf c ?_) hNe⟩
    ·rw [hF]
     have:(k+1) * size e<=List.length (α:=El e) x * size e:=Nat.mul_le_mul_right _ hk
     rw [Nat.add_mul,Nat.one_mul] at this
     omega
    ·refine List.mem_cons_of_mem _ (List.mem_flatten.2 ⟨_,?_,hcm⟩)
     rw [List.getD_eq_getElem?_getD,List.getElem?_eq_getElem (by omega)]
     exact List.getElem_mem _
  ·refine .inr (.inr ⟨ho,rfl,?_⟩)
   rcases h with h | ⟨b,o,ha,htb,hF,he⟩
   ·exact .inl h
   ·by_cases hx:(List.length (α:=El e) x)=0
    ·exact .inl (List.length_eq_zero_iff.1 hx)
    have hbl:b<w.heap.size:=by
     obtain ⟨cs',hc,_⟩:=he 0 (by omega)
     exact Z0Y hc
    have hkb:Z07 w F w' F' b:=by
     rcases hN with hN | hN
     ·have:=hN t (by simp)
      cases t<;>simp_all [Tag.isN,Tag.own,Z5h]
     ·cases t with
      | S=>exact hS b htb
      | N=>exact hN b hbl htb
      | _=>cases ho
    refine .inr ⟨b,o,ha,?_,Nat.le_trans hF hkb.1,λk hk=> ?_⟩
    ·cases t<;>simp_all [Z5h]
    ·obtain ⟨cs',hc,hk'⟩:=he k hk
     refine ⟨cs',hkb.2.1 _ _ _ ?_ hc,Rp.pres hSt hAl hS hk' (by simp) hNe⟩
     have:(k+1) * size e<=List.length (α:=El e) x * size e:=Nat.mul_le_mul_right _ hk
     rw [Nat.add_mul,Nat.one_mul] at this
     omega
def Tag.weak (St':Nat->Prop) (fp:List Nat) (t t':Tag):Prop:=t'= .N\/(t'= .S/\(t= .S\/((t= .O\/t= .PS)/\∀ b∈fp,St' b)))
theorem Rp.weaken {St':Nat->Prop} (hSt:∀ b,St b->St' b) (hSA:∀ b,St b->Al b) :
  {τ:Ty}->{tg tg':List Tag}->{cs:List Value}->{x:El τ}->{fp:List Nat}->Rp w F St Al τ tg cs x fp ->
  tg'.length=tg.length->(∀ i (h:i<tg.length) (h':i<tg'.length),Tag.weak St' fp tg[i] tg'[i])->Rp w F St' Al τ tg' cs x []
 | .int _,_,_,_,_,_,h,hl,_=>by obtain ⟨rfl,rfl,rfl⟩:=h;exact ⟨rfl,by simpa using hl,rfl⟩
 | .bool,_,_,_,_,_,h,hl,_=>by obtain ⟨rfl,rfl,rfl⟩:=h;exact ⟨rfl,by simpa using hl,rfl⟩
 | .str,_,_,_,_,_,h,hl,_=>by obtain ⟨rfl,rfl,rfl⟩:=h;exact ⟨rfl,by simpa using hl,rfl⟩
 | .unit,_,_,_,_,_,h,hl,_=>by obtain ⟨rfl,rfl,rfl⟩:=h;exact ⟨rfl,by simpa using hl,rfl⟩
 | .pair a b,_,tg',_,_,_,h,hl,hw=>by
  obtain ⟨t1,t2,c1,c2,f1,f2,rfl,rfl,rfl,h1,h2⟩:=h
  have hl':tg'.length=t1.length+t2.length:=by simpa using hl
  refine ⟨tg'.take t1.length,tg'.drop t1.length,c1,c2,[],[],(List.take_append_drop _ _).symm,rfl,rfl,Rp.weaken hSt hSA h1 (by simp;omega) ?_,Rp.weaken hSt hSA h2 (by simp;omega) ?_⟩
  ·intro i h h'
   have:=hw i (by simp;omega) (by simp at h';omega)
   rw [List.getElem_append_left h] at this
   simp only [List.getElem_take]
   exact this.imp id (λ⟨h1,h2⟩=>⟨h1,h2.imp id (λ⟨h3,h4⟩=>⟨h3,λb hb=>h4 b (List.mem_append_left _ hb)⟩)⟩)
  ·intro i h h'
   have:=hw (t1.length+i) (by simp;omega) (by simp at h';omega)
   rw [List.getElem_append_right (by omega)] at this
   simp only [Nat.add_sub_cancel_left] at this
   simp only [List.getElem_drop]
   exact this.imp id (λ⟨h1,h2⟩=>⟨h1,h2.imp id (λ⟨h3,h4⟩=>⟨h3,λb hb=>h4 b (List.mem_append_right _ hb)⟩)⟩)
 | .slice e,_,tg',_,_,_,h,hl,hw=>by
  obtain ⟨t,a,cap,rfl,rfl,hlc,h⟩:=h
  obtain ⟨t',rfl⟩:∃ t',tg'=[t']:=by
   match tg',hl with
   | [t'],_=>exact ⟨t',rfl⟩
  have hw0:=hw 0 (by simp) (by simp)
  simp only [List.getElem_cons_zero] at hw0
  have ho':t'.own=false:=by rcases hw0 with rfl | ⟨rfl,_⟩<;>rfl
  refine ⟨t',a,cap,rfl,rfl,hlc,.inr (.inr ⟨ho',rfl,?_⟩)⟩
  have inner:∀ (f:List Nat),(∀ b∈f,∀ _:t'= .S,t.inner.own=true->St' b)->∀ i (h:i<(List.replicate (Z06 e) t.inner).length) (h':i<(List.replicate (Z06 e) t'.inner).length),
    Tag.weak St' f (List.replicate (Z06 e) t.inner)[i] (List.replicate (Z06 e) t'.inner)[i]:=by
   intro f hf i h h'
   simp only [List.getElem_replicate]
   rcases hw0 with rfl | ⟨rfl,h⟩
   ·exact .inl rfl
   ·refine .inr ⟨rfl,?_⟩
    rcases h with rfl | ⟨rfl | rfl,h⟩
    ·exact .inl rfl
    ·exact .inr ⟨.inl rfl,λb hb=>hf b hb rfl rfl⟩
    ·exact .inl rfl
  rcases h with ⟨_,rfl,rfl,rfl,rfl⟩ | ⟨ho,b,o,fps,rfl,hal,rfl,hl2,hr,hF,he⟩ | ⟨ho,rfl,h⟩
  ·exact .inl rfl
  ·refine .inr ⟨b,o,rfl,?_,by omega,λk hk=> ?_⟩
   ·rcases hw0 with rfl | ⟨rfl,h⟩
    ·exact hal
    ·rcases h with rfl | ⟨_,h⟩
     ·cases ho
     ·exact h b (by simp)
   ·obtain ⟨cs',hc,hk'⟩:=he k hk
    refine ⟨cs',hc,Rp.weaken hSt hSA hk' (by simp) (inner _ λc hcm hs _=> ?_)⟩
    rcases hw0 with rfl | ⟨rfl,h⟩
    ·cases hs
    ·rcases h with rfl | ⟨_,h⟩
     ·cases ho
     ·refine h c (List.mem_cons_of_mem _ (List.mem_flatten.2 ⟨_,?_,hcm⟩))
      rw [List.getD_eq_getElem?_getD,List.getElem?_eq_getElem (by omega)]
      exact List.getElem_mem _
  ·rcases h with h | ⟨b,o,ha,htb,hF,he⟩
   ·exact .inl h
   ·refine .inr ⟨b,o,ha,?_,hF,λk hk=> ?_⟩
    ·rcases hw0 with rfl | ⟨rfl,h⟩
     ·cases t<;>simp_all [Z5h,Tag.own]
     ·rcases h with rfl | ⟨rfl | rfl,h⟩
      ·exact hSt b htb
      ·cases ho
      ·cases ho
    ·obtain ⟨cs',hc,hk'⟩:=he k hk
     exact ⟨cs',hc,Rp.weaken hSt hSA hk' (by simp) (inner _ (by simp))⟩
theorem Rp.alias (hSA:∀ b,St b->Al b) {τ:Ty} {tg:List Tag} {cs:List Value} {x:El τ} {fp:List Nat} (h:Rp w F St Al τ tg cs x fp):Rp w F St Al τ (tg.map Tag.alias) cs x []:=
 h.weaken (λ_ h=>h) hSA (by simp) λi h h'=>by
  simp only [List.getElem_map]
  cases tg[i]<;>simp [Tag.weak,Tag.alias]
theorem Rp.freeze {St':Nat->Prop} (hSt:∀ b,St b->St' b) (hSA:∀ b,St b->Al b) {τ:Ty} {tg:List Tag} {cs:List Value} {x:El τ} {fp:List Nat} (h:Rp w F St Al τ tg cs x fp) (hfp:∀ b∈fp,St' b) :
  Rp w F St' Al τ (tg.map Tag.freeze) cs x []:=
 h.weaken hSt hSA (by simp) λi h h'=>by
  simp only [List.getElem_map]
  generalize tg[i]=t
  cases t<;>simp [Tag.weak,Tag.freeze]
  ·exact hfp
  ·exact hfp
theorem Rp.fp_nil:{τ:Ty}->{tg:List Tag}->{cs:List Value}->{x:El τ}->{fp:List Nat}->Rp w F St Al τ tg cs x fp->(∀ t∈tg,t.own=false)->fp=[]
 | .int _,_,_,_,_,h,_=>by obtain ⟨rfl,rfl,rfl⟩:=h;rfl
 | .bool,_,_,_,_,h,_=>by obtain ⟨rfl,rfl,rfl⟩:=h;rfl
 | .str,_,_,_,_,h,_=>by obtain ⟨rfl,rfl,rfl⟩:=h;rfl
 | .unit,_,_,_,_,h,_=>by obtain ⟨rfl,rfl,rfl⟩:=h;rfl
 | .slice e,_,_,_,_,h,ho=>by
  obtain ⟨t,a,cap,rfl,rfl,_,h⟩:=h
  have:=ho t (by simp)
  rcases h with ⟨h1,_⟩ | ⟨h1,_⟩ | ⟨_,rfl,_⟩
  ·simp_all
  ·simp_all
  ·rfl
 | .pair a b,_,_,_,_,h,ho=>by
  obtain ⟨t1,t2,c1,c2,f1,f2,rfl,rfl,rfl,h1,h2⟩:=h
  rw [Rp.fp_nil h1 λt ht=>ho t (List.mem_append_left _ ht),Rp.fp_nil h2 λt ht=>ho t (List.mem_append_right _ ht)];rfl
end
end Go.PI
namespace Go.PI
def Z00 (w:World):(τ:Ty)->List Value->Option (Nat×Nat)->List Step->Option (List Value×Option (Nat×Nat))
 | _,cs,base,[]=>some (cs,base)
 | .pair a b,cs,base,.fst::p=>Z00 w a (cs.take (size a)) base p
 | .pair a b,cs,base,.snd::p=>Z00 w b (cs.drop (size a)) (base.map λx=>(x.1,x.2+size a)) p
 | .slice e,cs,_,.idx i::p=>
  match cs with
  | [.slice (some ⟨b,o,none⟩) len _]=>
   if i<len then
    match Z05 w b (o+i * size e) (size e) with
    | some cs'=>Z00 w e cs' (some (b,o+i * size e)) p
    | none=>none
   else none
  | _=>none
 | _,_,_,_=>none
section
variable {w:World} {F:Nat->Nat} {St Al:Nat->Prop}
theorem Z4g {α:Type} (l:List α) (i:Nat) (d:α) (h:i<l.length):l.getD i d=l.get ⟨i,h⟩:=by
 rw [List.getD_eq_getElem?_getD,List.getElem?_eq_getElem h];rfl
theorem Rp.pair_parts {a b:Ty} {tg:List Tag} {cs:List Value} {x:El (.pair a b)} {fp:List Nat} (h:Rp w F St Al (.pair a b) tg cs x fp) :
  ∃ f1 f2,fp=f1++f2/\Rp w F St Al a (tg.take (Z06 a)) (cs.take (size a)) x.1 f1/\Rp w F St Al b (tg.drop (Z06 a)) (cs.drop (size a)) x.2 f2:=by
 obtain ⟨t1,t2,c1,c2,f1,f2,rfl,rfl,rfl,h1,h2⟩:=h
 have i1:=h1.len
 refine ⟨f1,f2,rfl,?_,?_⟩
 ·rw [<-i1.1,<-i1.2];simpa using h1
 ·rw [<-i1.1,<-i1.2];simpa using h2
theorem Rp.pair_mk {a b:Ty} {t1 t2:List Tag} {c1 c2:List Value} {x:El a} {y:El b} {f1 f2:List Nat} (h1:Rp w F St Al a t1 c1 x f1) (h2:Rp w F St Al b t2 c2 y f2) :
  Rp w F St Al (.pair a b) (t1++t2) (c1++c2) (x,y) (f1++f2):=⟨t1,t2,c1,c2,f1,f2,rfl,rfl,rfl,h1,h2⟩
theorem Rp.get:{path:List Step}->{τ:Ty}->{tg:List Tag}->{cs cs':List Value}->{x:El τ}->{fp:List Nat}->{base base':Option (Nat×Nat)}->{u:TVal} ->
  Rp w F St Al τ tg cs x fp->Z00 w τ cs base path=some (cs',base')->Z04 τ x tg path=some u ->
  ∃ fp',Rp w F St Al u.τ u.tg cs' u.x fp'/\∀ b∈fp',b∈fp
 | [],τ,tg,cs,cs',x,fp,base,base',u,h,hl,hg=>by
  simp only [Z00,Option.some.injEq,Prod.mk.injEq] at hl
  obtain ⟨rfl,rfl⟩:=hl
  cases τ<;>(simp only [Z04,Option.some.injEq] at hg;subst hg;exact ⟨fp,h,λ_ h=>h⟩)
 | .fst::p,.pair a b,tg,cs,cs',x,fp,base,base',u,h,hl,hg=>by
  obtain ⟨f1,f2,rfl,h1,h2⟩:=h.pair_parts
  obtain ⟨fp',h3,h4⟩:=Rp.get (path:=p) h1 hl hg
  exact ⟨fp',h3,λb hb=>List.mem_append_left _ (h4 b hb)⟩
 | .snd::p,.pair a b,tg,cs,cs',x,fp,base,base',u,h,hl,hg=>by
  obtain ⟨f1,f2,rfl,h1,h2⟩:=h.pair_parts
  obtain ⟨fp',h3,h4⟩:=Rp.get (path:=p) h2 hl hg
  exact ⟨fp',h3,λb hb=>List.mem_append_right _ (h4 b hb)⟩
 | .idx i::p,.slice e,tg,cs,cs',x,fp,base,base',u,h,hl,hg=>by
  obtain ⟨t,a,cap,rfl,rfl,hlc,h⟩:=h
  simp only [Z00] at hl
  split at hl
  ·rename_i b o len cap' heq
   simp only [List.cons.injEq,Value.slice.injEq,and_true] at heq
   obtain ⟨rfl,rfl,rfl⟩:=heq
   split at hl
   ·rename_i hi
    split at hl
    ·rename_i cse hce
     simp only [Z04,List.headD_cons] at hg
     rw [Z4g _ _ _ hi] at hg
     rcases h with ⟨_,hn,_⟩ | ⟨ho,b',o',fps,hbb,hal,rfl,hlf,hr,hF,he⟩ | ⟨ho,rfl,h⟩
     ·cases hn
     ·simp only [Option.some.injEq,Addr.mk.injEq,and_true] at hbb
      obtain ⟨rfl,rfl⟩:=hbb
      obtain ⟨c2,hc2,hk⟩:=he i hi
      rw [hce] at hc2
      cases hc2
      obtain ⟨fp',h3,h4⟩:=Rp.get (path:=p) hk hl hg
      refine ⟨fp',h3,λc hc=>List.mem_cons_of_mem _ (List.mem_flatten.2 ⟨_,?_,h4 c hc⟩)⟩
      rw [List.getD_eq_getElem?_getD,List.getElem?_eq_getElem (by omega)]
      exact List.getElem_mem _
     ·rcases h with h | ⟨b',o',hbb,htb,hF,he⟩
      ·subst h;simp at hi
      ·simp only [Option.some.injEq,Addr.mk.injEq,and_true] at hbb
       obtain ⟨rfl,rfl⟩:=hbb
       obtain ⟨c2,hc2,hk⟩:=he i hi
       rw [hce] at hc2
       cases hc2
       obtain ⟨fp',h3,h4⟩:=Rp.get (path:=p) hk hl hg
       exact ⟨fp',h3,λc hc=>by simpa using h4 c hc⟩
    ·cases hl
   ·cases hl
  ·cases hl
 | .fst::_,.int _,_,_,_,_,_,_,_,_,_,hl,_=>by simp [Z00] at hl
 | .fst::_,.bool,_,_,_,_,_,_,_,_,_,hl,_=>by simp [Z00] at hl
 | .fst::_,.str,_,_,_,_,_,_,_,_,_,hl,_=>by simp [Z00] at hl
 | .fst::_,.unit,_,_,_,_,_,_,_,_,_,hl,_=>by simp [Z00] at hl
 | .fst::_,.slice _,_,_,_,_,_,_,_,_,_,hl,_=>by simp [Z00] at hl
 | .snd::_,.int _,_,_,_,_,_,_,_,_,_,hl,_=>by simp [Z00] at hl
 | .snd::_,.bool,_,_,_,_,_,_,_,_,_,hl,_=>by simp [Z00] at hl
 | .snd::_,.str,_,_,_,_,_,_,_,_,_,hl,_=>by simp [Z00] at hl
 | .snd::_,.unit,_,_,_,_,_,_,_,_,_,hl,_=>by simp [Z00] at hl
 | .snd::_,.slice _,_,_,_,_,_,_,_,_,_,hl,_=>by simp [Z00] at hl
 | .idx _::_,.int _,_,_,_,_,_,_,_,_,_,hl,_=>by simp [Z00] at hl
 | .idx _::_,.bool,_,_,_,_,_,_,_,_,_,hl,_=>by simp [Z00] at hl
 | .idx _::_,.str,_,_,_,_,_,_,_,_,_,hl,_=>by simp [Z00] at hl
 | .idx _::_,.unit,_,_,_,_,_,_,_,_,_,hl,_=>by simp [Z00] at hl
 | .idx _::_,.pair _ _,_,_,_,_,_,_,_,_,_,hl,_=>by simp [Z00] at hl
def Z0g:Ty->List Step->Nat
 | .pair a b,.fst::p=>Z0g a p
 | .pair a b,.snd::p=>size a+Z0g b p
 | _,_=>0
def Z0c (cs:List Value) (o:Nat) (l:List Value):List Value:=cs.take o++l++cs.drop (o+l.length)
def Z0m (w:World) (b o:Nat) (l:List Value):World:=
 { w with heap:=w.heap.modify b λob=>match ob with | .cells c T fr=> .cells (Z0c c.toList o l).toArray T fr | x=>x }
theorem Z1V {cs l:List Value} {o:Nat} (h:o+l.length<=cs.length):(Z0c cs o l).length=cs.length:=by
 unfold Z0c;simp;omega
theorem Z2Z {cs l:List Value} (h:l.length=cs.length):Z0c cs 0 l=l:=by
 unfold Z0c;simp [h]
theorem Z4x {cs l:List Value} {o o' n:Nat} (h:o+n<=o'\/o'+l.length<=o) (hb:o'+l.length<=cs.length) :
  ((Z0c cs o' l).drop o).take n=(cs.drop o).take n:=by
 apply List.ext_getElem?
 intro i
 unfold Z0c
 simp only [List.getElem?_take,List.getElem?_drop]
 by_cases hi:i<n
 ·simp only [hi,if_true]
  rcases h with h | h
  ·rw [List.append_assoc,List.getElem?_append_left (by simp;omega),List.getElem?_take_of_lt (by omega)]
  ·rw [List.getElem?_append_right (by simp;omega)]
   simp only [List.length_append,List.length_take,List.getElem?_drop]
   congr 1
   omega
 ·simp [hi]
theorem Z4O {cs l:List Value} {o o' n:Nat} (h:o<=o') (h2:o'+l.length<=o+n) (hb:o+n<=cs.length) :
  ((Z0c cs o' l).drop o).take n=Z0c ((cs.drop o).take n) (o'-o) l:=by
 apply List.ext_getElem?
 intro i
 unfold Z0c
 simp only [List.getElem?_take,List.getElem?_drop]
 by_cases hi:i<n
 ·simp only [hi,if_true]
  by_cases h3:o+i<o'
  ·rw [List.append_assoc,List.getElem?_append_left (by simp;omega),List.getElem?_take_of_lt (by omega)]
   rw [List.append_assoc,List.getElem?_append_left (by simp;omega),List.getElem?_take_of_lt (by omega),List.getElem?_take_of_lt (by omega),List.getElem?_drop]
  ·by_cases h4:o+i<o'+l.length
   ·rw [List.append_assoc,List.getElem?_append_right (by simp;omega),List.getElem?_append_left (by simp;omega)]
    rw [List.append_assoc,List.getElem?_append_right (by simp;omega),List.getElem?_append_left (by simp;omega)]
    congr 1
    simp;omega
   ·rw [List.getElem?_append_right (by simp;omega),List.getElem?_append_right (by simp;omega)]
    simp only [List.length_append,List.length_take,List.getElem?_drop,List.length_drop,List.getElem?_take]
    rw [if_pos (by omega)]
    congr 1
    omega
 ·simp only [hi,if_false]
  rw [List.getElem?_eq_none]
  simp;omega
theorem Z16 {w:World} {b o:Nat} {l:List Value} {c:Nat} (h:c≠b):(Z0m w b o l).heap[c]? = w.heap[c]? := by
 simp only [Z0m,Array.getElem?_modify]
 rw [if_neg (by omega)]
theorem Z11 {w w':World} {b:Nat} (h:w'.heap[b]? = w.heap[b]?) (o n:Nat):Z05 w' b o n=Z05 w b o n:=by
 unfold Z05;rw [h]
theorem Z3O {w w':World} {b n:Nat} (h:w'.heap[b]? = w.heap[b]?):Row w' b n↔Row w b n:=by
 unfold Row;rw [h]
theorem Z2l {w:World} {b o' o n:Nat} {l cs:List Value} (hl:∃ m,o'+l.length<=m/\Row w b m) (h:o+n<=o'\/o'+l.length<=o) (hc:Z05 w b o n=some cs) :
  Z05 (Z0m w b o' l) b o n=some cs:=by
 obtain ⟨m,hm,c,T,fr,hb,hs,_⟩:=hl
 have hlc:o'+l.length<=c.toList.length:=by have:c.toList.length=c.size:=Array.length_toList;omega
 have hsz:(Z0c c.toList o' l).toArray.size=c.size:=by rw [List.size_toArray,Z1V hlc,Array.length_toList]
 have hp:(Z0m w b o' l).heap[b]? = some (.cells (Z0c c.toList o' l).toArray T fr):=by
  simp only [Z0m,Array.getElem?_modify,hb,if_true,Option.map_some]
 unfold Z05 at *
 rw [hb] at hc
 rw [hp]
 simp only [] at hc ⊢
 by_cases h1:o+n<=c.size
 ·rw [if_pos h1] at hc
  rw [if_pos (by rw [hsz];exact h1),List.toList_toArray,Z4x h hlc]
  exact hc
 ·rw [if_neg h1] at hc;cases hc
theorem Z3I {w:World} {b o' o n:Nat} {l cs:List Value} (h:o<=o') (h2:o'+l.length<=o+n) (hc:Z05 w b o n=some cs) :
  Z05 (Z0m w b o' l) b o n=some (Z0c cs (o'-o) l):=by
 unfold Z05 at hc
 split at hc
 ·rename_i c T fr hb
  split at hc
  ·rename_i h1
   cases hc
   have hlc:o'+l.length<=c.toList.length:=by have:c.toList.length=c.size:=Array.length_toList;omega
   have hsz:(Z0c c.toList o' l).toArray.size=c.size:=by rw [List.size_toArray,Z1V hlc,Array.length_toList]
   have hp:(Z0m w b o' l).heap[b]? = some (.cells (Z0c c.toList o' l).toArray T fr):=by
    simp only [Z0m,Array.getElem?_modify,hb,if_true,Option.map_some]
   unfold Z05
   rw [hp]
   simp only []
   rw [if_pos (by rw [hsz];exact h1),List.toList_toArray,Z4O h h2 (by have:c.toList.length=c.size:=Array.length_toList;omega)]
  ·cases hc
 ·cases hc
theorem Z4Q {w:World} {b o' n m:Nat} {l:List Value} (hl:o'+l.length<=m) (hr:Row w b m) (h:Row w b n):Row (Z0m w b o' l) b n:=by
 obtain ⟨c,T,fr,hb,hs,ht⟩:=h
 obtain ⟨c2,T2,fr2,hb2,hs2,_⟩:=hr
 rw [hb] at hb2
 cases hb2
 have hsz:(Z0c c.toList o' l).toArray.size=c.size:=by
  rw [List.size_toArray,Z1V (by have:c.toList.length=c.size:=Array.length_toList;omega),Array.length_toList]
 refine ⟨(Z0c c.toList o' l).toArray,T,fr,?_,by omega,λj hj=>ht j (by omega)⟩
 simp only [Z0m,Array.getElem?_modify,hb,if_true,Option.map_some]
theorem Z2E {w w':World} {b:Nat} (h:w'.heap[b]? = w.heap[b]?):Z2D w' b↔Z2D w b:=by
 unfold Z2D;rw [h]
theorem Z3E {w:World} {b o' m:Nat} {l:List Value} (hl:o'+l.length<=m) (hr:Row w b m) (h:Z2D w b):Z2D (Z0m w b o' l) b:=by
 obtain ⟨c,T,fr,hb,hs⟩:=h
 obtain ⟨c2,T2,fr2,hb2,hs2,_⟩:=hr
 rw [hb] at hb2
 cases hb2
 have hsz:(Z0c c.toList o' l).toArray.size=c.size:=by
  rw [List.size_toArray,Z1V (by have:c.toList.length=c.size:=Array.length_toList;omega),Array.length_toList]
 refine ⟨(Z0c c.toList o' l).toArray,T,fr,?_,by rw [hsz];exact hs⟩
 simp only [Z0m,Array.getElem?_modify,hb,if_true,Option.map_some]
def Z7p (w:World) (base:Option (Nat×Nat)) (l:List Value):World:=match base with | some (b,o)=>Z0m w b o l | none=>w
theorem Z3M (l:List (List Nat)) (i:Nat) (h:i<l.length):(l.flatten).Perm ((l.set i []).flatten++l[i]):=by
 induction l generalizing i with
 | nil=>simp at h
 | cons a l ih=>
  cases i with
  | zero=>simp only [List.set_cons_zero,List.flatten_cons,List.getElem_cons_zero,List.nil_append];exact List.perm_append_comm
  | succ i=>
   simp only [List.set_cons_succ,List.flatten_cons,List.getElem_cons_succ,List.append_assoc]
   exact List.Perm.append_left _ (ih i (by simpa using h))
theorem Z5x (l:List (List Nat)) (i:Nat) (m:List Nat) (h:i<l.length):((l.set i m).flatten).Perm ((l.set i []).flatten++m):=by
 have:=Z3M (l.set i m) i (by simpa using h)
 simpa using this
end
end Go.PI
namespace Go.PI
section
variable {w:World} {F:Nat->Nat} {St Al:Nat->Prop}
theorem Rp.presO {w':World} {F':Nat->Nat} {St' Al':Nat->Prop} :
  {τ:Ty}->{tg:List Tag}->{cs:List Value}->{x:El τ}->{fp:List Nat}->Rp w F St Al τ tg cs x fp->(∀ t∈tg,t= .O) ->
  (∀ b∈fp,Z07 w F w' F' b/\F' b=F b/\(Al b->Al' b))->Rp w' F' St' Al' τ tg cs x fp
 | .int _,_,_,_,_,h,_,_=>h
 | .bool,_,_,_,_,h,_,_=>h
 | .str,_,_,_,_,h,_,_=>h
 | .unit,_,_,_,_,h,_,_=>h
 | .pair a b,_,_,_,_,h,hO,hf=>by
  obtain ⟨t1,t2,c1,c2,f1,f2,rfl,rfl,rfl,h1,h2⟩:=h
  exact ⟨t1,t2,c1,c2,f1,f2,rfl,rfl,rfl,Rp.presO h1 (λt ht=>hO t (List.mem_append_left _ ht)) (λb hb=>hf b (List.mem_append_left _ hb)),
   Rp.presO h2 (λt ht=>hO t (List.mem_append_right _ ht)) (λb hb=>hf b (List.mem_append_right _ hb))⟩
 | .slice e,_,_,x,_,h,hO,hf=>by
  obtain ⟨t,a,cap,rfl,rfl,hlc,h⟩:=h
  obtain rfl:=hO t (by simp)
  refine ⟨.O,a,cap,rfl,rfl,hlc,?_⟩
  rcases h with h | ⟨ho,b,o,fps,ha,hal,rfl,hl,hr,hF,he⟩ | ⟨ho,_⟩
  ·exact .inl h
  ·have hb:=hf b (by simp)
   refine .inr (.inl ⟨ho,b,o,fps,ha,hb.2.2 hal,rfl,hl,hb.1.rowE hr,by rw [hb.2.1];exact hF,λk hk=> ?_⟩)
   obtain ⟨cs',hc,hk'⟩:=he k hk
   refine ⟨cs',hb.1.2.1 _ _ _ ?_ hc,Rp.presO hk' (by simp [Tag.inner]) (λc hcm=>hf c ?_)⟩
   ·rw [hF]
    have:(k+1) * size e<=List.length (α:=El e) x * size e:=Nat.mul_le_mul_right _ hk
    rw [Nat.add_mul,Nat.one_mul] at this
    omega
   ·refine List.mem_cons_of_mem _ (List.mem_flatten.2 ⟨_,?_,hcm⟩)
    rw [List.getD_eq_getElem?_getD,List.getElem?_eq_getElem (by omega)]
    exact List.getElem_mem _
  ·cases ho
theorem Z1w:{path:List Step}->{τ:Ty}->{x:El τ}->{tg:List Tag}->{u:TVal}->Z08 path=true->Z04 τ x tg path=some u->Z0g τ path+size u.τ<=size τ
 | [],τ,x,tg,u,_,h=>by cases τ<;>(simp only [Z04,Option.some.injEq] at h;subst h;simp [Z0g])
 | .fst::p,.pair a b,x,tg,u,hf,h=>by
  have:=Z1w (path:=p) hf h
  simp only [Z0g,size];omega
 | .snd::p,.pair a b,x,tg,u,hf,h=>by
  have:=Z1w (path:=p) hf h
  simp only [Z0g,size];omega
 | .idx _::_,_,_,_,_,hf,_=>by simp [Z08] at hf
 | .fst::_,.int _,_,_,_,_,h=>by simp [Z04] at h
 | .fst::_,.bool,_,_,_,_,h=>by simp [Z04] at h
 | .fst::_,.str,_,_,_,_,h=>by simp [Z04] at h
 | .fst::_,.unit,_,_,_,_,h=>by simp [Z04] at h
 | .fst::_,.slice _,_,_,_,_,h=>by simp [Z04] at h
 | .snd::_,.int _,_,_,_,_,h=>by simp [Z04] at h
 | .snd::_,.bool,_,_,_,_,h=>by simp [Z04] at h
 | .snd::_,.str,_,_,_,_,h=>by simp [Z04] at h
 | .snd::_,.unit,_,_,_,_,h=>by simp [Z04] at h
 | .snd::_,.slice _,_,_,_,_,h=>by simp [Z04] at h
theorem Z3i {a b l:List Value} {o:Nat} (h:o+l.length<=a.length):Z0c (a++b) o l=Z0c a o l++b:=by
 unfold Z0c
 rw [List.take_append_of_le_length (by omega),List.drop_append_of_le_length (by omega)]
 simp
theorem Z2O {a b l:List Value} {o:Nat}:Z0c (a++b) (a.length+o) l=a++Z0c b o l:=by
 unfold Z0c
 rw [List.take_length_add_append,show a.length+o+l.length=a.length+(o+l.length) by omega,List.drop_length_add_append]
 simp
def Put (w:World) (F:Nat->Nat) (Al:Nat->Prop) (w':World) (F':Nat->Nat) (Al':Nat->Prop) (base:Option (Nat×Nat)) (l:List Value) (b:Nat):Prop:=
 F' b=F b/\(Al b->Al' b)/\w'.heap[b]? = (Z7p w base l).heap[b]?
theorem Put.keep {w':World} {F':Nat->Nat} {Al':Nat->Prop} {base:Option (Nat×Nat)} {l:List Value} {b:Nat} (h:Put w F Al w' F' Al' base l b) (hb:∀ y,base=some y->y.1≠b) :
  Z07 w F w' F' b/\F' b=F b/\(Al b->Al' b):=by
 refine ⟨Z07.of_block ?_ (by rw [h.1];exact Nat.le_refl _),h.1,h.2.1⟩
 rw [h.2.2]
 cases base with
 | none=>rfl
 | some y=>exact Z16 (by have:=hb y rfl;omega)
structure Lens (w:World) (F:Nat->Nat) (St Al:Nat->Prop) (τ:Ty) (tg:List Tag) (cs:List Value) (x:El τ) (fp:List Nat) (base:Option (Nat×Nat)) (path:List Step)
  (cs':List Value) (base':Option (Nat×Nat)) (u:TVal) (fpo fpi:List Nat):Prop where
 perm:fp.Perm (fpo++fpi)
 part:Rp w F St Al u.τ u.tg cs' u.x fpi
 tags:∀ t∈u.tg,t= .O
 deep:Z08 path=false->∃ b' o' m,base'=some (b',o')/\b'∈fpo/\o'+size u.τ<=m/\Row w b' m
 flat:Z08 path=true->base'=base.map λy=>(y.1,y.2+Z0g τ path)
 put:∀ (w':World) (F':Nat->Nat) (St' Al':Nat->Prop) (v:TVal) (csv:List Value) (fpv:List Nat) (x':El τ) (tg':List Tag),
  Z0K τ x tg path v=some (x',tg')->v.τ=u.τ->(∀ t∈v.tg,t= .O)->Rp w' F' St' Al' v.τ v.tg csv v.x fpv ->
  (∀ b∈fpo,Put w F Al w' F' Al' base' csv b) ->
  ∃ fpn,fpn.Perm (fpo++fpv)/\(∀ t∈tg',t= .O)/\Rp w' F' St' Al' τ tg' (if Z08 path then Z0c cs (Z0g τ path) csv else cs) x' fpn
theorem Rp.lens:{path:List Step}->{τ:Ty}->{tg:List Tag}->{cs cs':List Value}->{x:El τ}->{fp:List Nat}->{base base':Option (Nat×Nat)}->{u:TVal} ->
  Rp w F St Al τ tg cs x fp->(∀ t∈tg,t= .O)->fp.Nodup->(∀ y,base=some y->y.1 ∉ fp)->Z00 w τ cs base path=some (cs',base')->Z04 τ x tg path=some u ->
  ∃ fpo fpi,Lens w F St Al τ tg cs x fp base path cs' base' u fpo fpi
 | [],τ,tg,cs,cs',x,fp,base,base',u,h,hO,hn,hb,hl,hg=>by
  simp only [Z00,Option.some.injEq,Prod.mk.injEq] at hl
  obtain ⟨rfl,rfl⟩:=hl
  have hu:u=⟨τ,false,x,tg⟩:=by cases τ<;>(simp only [Z04,Option.some.injEq] at hg;exact hg.symm)
  subst hu
  refine ⟨[],fp,⟨by simp,h,hO,by simp [Z08],λ_=> ?_,?_⟩⟩
  ·cases base<;>cases τ<;>simp [Z0g]
  ·intro w' F' St' Al' v csv fpv x' tg' hs hv hvO hvr _
   obtain ⟨vτ,vag,vx,vtg⟩:=v
   simp only at hv hvO hvr
   subst hv
   have hs':vx=x'/\vtg=tg':=by
    cases vτ<;>(simp only [Z0K,dif_pos,Option.some.injEq,Prod.mk.injEq] at hs;first | exact hs | exact ⟨rfl,hs.2⟩)
   obtain ⟨rfl,rfl⟩:=hs'
   refine ⟨fpv,by simp,hvO,?_⟩
   have h0:Z0g vτ []=0:=by cases vτ<;>rfl
   simp only [Z08,if_true,h0]
   rw [Z2Z (by rw [hvr.len.1,h.len.1])]
   exact hvr
 | .fst::p,.pair a b,tg,cs,cs',x,fp,base,base',u,h,hO,hn,hb,hl,hg=>by
  obtain ⟨t1,t2,c1,c2,f1,f2,rfl,rfl,rfl,h1,h2⟩:=h
  have i1:=h1.len
  have hl':Z00 w a c1 base p=some (cs',base'):=by
   simp only [Z00] at hl;rw [<-i1.1] at hl;simpa using hl
  have hg':Z04 a x.1 t1 p=some u:=by
   simp only [Z04] at hg;rw [<-i1.2] at hg;simpa using hg
  have hn1:f1.Nodup:=(List.nodup_append.1 hn).1
  obtain ⟨fpo,fpi,L⟩:=Rp.lens (path:=p) h1 (λt ht=>hO t (List.mem_append_left _ ht)) hn1 (λy hy=>λhm=>hb y hy (List.mem_append_left _ hm)) hl' hg'
  have hsub:∀ c∈fpo,c∈f1:=λc hc=>L.perm.symm.subset (List.mem_append_left _ hc)
  refine ⟨fpo++f2,fpi,⟨?_,L.part,L.tags,?_,?_,?_⟩⟩
  ·refine (List.Perm.append_right f2 L.perm).trans ?_
   rw [List.append_assoc,List.append_assoc]
   exact List.Perm.append_left _ List.perm_append_comm
  ·intro hf
   obtain ⟨b',o',m,h3,h4,h5⟩:=L.deep hf
   exact ⟨b',o',m,h3,List.mem_append_left _ h4,h5⟩
  ·intro hf;exact L.flat hf
  ·intro w' F' St' Al' v csv fpv x' tg' hs hv hvO hvr hp
   simp only [Z0K] at hs
   rw [<-i1.2] at hs
   simp only [List.take_left',List.drop_left',Option.map_eq_some_iff] at hs
   obtain ⟨⟨xa,ta⟩,hs1,hs2⟩:=hs
   simp only [Prod.mk.injEq] at hs2
   obtain ⟨rfl,rfl⟩:=hs2
   obtain ⟨fpn,hpn,htn,hrn⟩:=L.put w' F' St' Al' v csv fpv xa ta hs1 hv hvO hvr (λc hc=>hp c (List.mem_append_left _ hc))
   have h2':Rp w' F' St' Al' b t2 c2 x.2 f2:=h2.presO (λt ht=>hO t (List.mem_append_right _ ht)) λc hc=>by
    refine (hp c (List.mem_append_right _ hc)).keep ?_
    intro y hy he
    cases hfl:Z08 p with
    | true=>
     have:=L.flat hfl
     rw [this] at hy
     cases hbs:base with
     | none=>rw [hbs] at hy;cases hy
     | some z=>rw [hbs] at hy;cases hy;have he':z.1=c:=he;exact hb z hbs (by rw [he'];exact List.mem_append_right _ hc)
    | false=>
     obtain ⟨b',o',m,h3,h4,h5⟩:=L.deep hfl
     rw [h3] at hy
     cases hy
     exact (List.nodup_append.1 hn).2.2 _ (hsub _ h4) _ hc he
   refine ⟨fpn++f2,?_,?_,?_⟩
   ·refine (List.Perm.append_right f2 hpn).trans ?_
    rw [List.append_assoc,List.append_assoc]
    exact List.Perm.append_left _ List.perm_append_comm
   ·intro t ht
    rcases List.mem_append.1 ht with ht | ht
    ·exact htn t ht
    ·exact hO t (List.mem_append_right _ ht)
   ·have hfe:Z08 (.fst::p)=Z08 p:=rfl
    rw [hfe]
    cases hfl:Z08 p with
    | true=>
     simp only [hfl,if_true] at hrn ⊢
     have hsz:=Z1w hfl hg'
     rw [show Z0g (a.pair b) (.fst::p)=Z0g a p from rfl,Z3i (by rw [hvr.len.1,hv,i1.1];omega)]
     exact Rp.pair_mk hrn h2'
    | false=>
     simp only [hfl,Bool.false_eq_true,if_false] at hrn ⊢
     exact Rp.pair_mk hrn h2'
 | .snd::p,.pair a b,tg,cs,cs',x,fp,base,base',u,h,hO,hn,hb,hl,hg=>by
  obtain ⟨t1,t2,c1,c2,f1,f2,rfl,rfl,rfl,h1,h2⟩:=h
  have i1:=h1.len
  have hl':Z00 w b c2 (base.map λx=>(x.1,x.2+size a)) p=some (cs',base'):=by
   simp only [Z00] at hl;rw [<-i1.1] at hl ⊢;simpa using hl
  have hg':Z04 b x.2 t2 p=some u:=by
   simp only [Z04] at hg;rw [<-i1.2] at hg;simpa using hg
  have hn1:f2.Nodup:=(List.nodup_append.1 hn).2.1
  obtain ⟨fpo,fpi,L⟩:=Rp.lens (path:=p) h2 (λt ht=>hO t (List.mem_append_right _ ht)) hn1 (λy hy=>λhm=>by
   cases hbs:base with
   | none=>rw [hbs] at hy;cases hy
   | some z=>rw [hbs] at hy;cases hy;exact hb z hbs (List.mem_append_right _ hm)) hl' hg'
  have hsub:∀ c∈fpo,c∈f2:=λc hc=>L.perm.symm.subset (List.mem_append_left _ hc)
  refine ⟨f1++fpo,fpi,⟨?_,L.part,L.tags,?_,?_,?_⟩⟩
  ·rw [List.append_assoc]
   exact List.Perm.append_left f1 L.perm
  ·intro hf
   obtain ⟨b',o',m,h3,h4,h5⟩:=L.deep hf
   exact ⟨b',o',m,h3,List.mem_append_right _ h4,h5⟩
  ·intro hf
   rw [L.flat hf]
   cases base with
   | none=>rfl
   | some z=>simp [Z0g,Nat.add_assoc]
  ·intro w' F' St' Al' v csv fpv x' tg' hs hv hvO hvr hp
   simp only [Z0K] at hs
   rw [<-i1.2] at hs
   simp only [List.take_left',List.drop_left',Option.map_eq_some_iff] at hs
   obtain ⟨⟨xa,ta⟩,hs1,hs2⟩:=hs
   simp only [Prod.mk.injEq] at hs2
   obtain ⟨rfl,rfl⟩:=hs2
   obtain ⟨fpn,hpn,htn,hrn⟩:=L.put w' F' St' Al' v csv fpv xa ta hs1 hv hvO hvr (λc hc=>hp c (List.mem_append_right _ hc))
   have h1':Rp w' F' St' Al' a t1 c1 x.1 f1:=h1.presO (λt ht=>hO t (List.mem_append_left _ ht)) λc hc=>by
    refine (hp c (List.mem_append_left _ hc)).keep ?_
    intro y hy he
    cases hfl:Z08 p with
    | true=>
     have:=L.flat hfl
     rw [this] at hy
     cases hbs:base with
     | none=>rw [hbs] at hy;cases hy
     | some z=>rw [hbs] at hy;cases hy;have he':z.1=c:=he;exact hb z hbs (by rw [he'];exact List.mem_append_left _ hc)
    | false=>
     obtain ⟨b',o',m,h3,h4,h5⟩:=L.deep hfl
     rw [h3] at hy
     cases hy
     exact (List.nodup_append.1 hn).2.2 _ hc _ (hsub _ h4) he.symm
   refine ⟨f1++fpn,?_,?_,?_⟩
   ·rw [List.append_assoc]
    exact List.Perm.append_left f1 hpn
   ·intro t ht
    rcases List.mem_append.1 ht with ht | ht
    ·exact hO t (List.mem_append_left _ ht)
    ·exact htn t ht
   ·have hfe:Z08 (.snd::p)=Z08 p:=rfl
    rw [hfe]
    cases hfl:Z08 p with
    | true=>
     simp only [hfl,if_true] at hrn ⊢
     rw [show Z0g (a.pair b) (.snd::p)=size a+Z0g b p from rfl,<-i1.1,Z2O]
     exact Rp.pair_mk h1' hrn
    | false=>
     simp only [hfl,Bool.false_eq_true,if_false] at hrn ⊢
     exact Rp.pair_mk h1' hrn
 | .idx i::p,.slice e,tg,cs,cs',x,fp,base,base',u,h,hO,hn,hb,hl,hg=>by
  obtain ⟨t,a,cap,rfl,rfl,hlc,h⟩:=h
  obtain rfl:=hO t (by simp)
  simp only [Z00] at hl
  split at hl
  ·rename_i b o len cap' heq
   simp only [List.cons.injEq,Value.slice.injEq,and_true] at heq
   obtain ⟨rfl,rfl,rfl⟩:=heq
   split at hl
   ·rename_i hi
    split at hl
    ·rename_i cse hce
     rcases h with ⟨_,hnn,_⟩ | ⟨ho,b',o',fps,hbb,hal,rfl,hlf,hr,hF,he⟩ | ⟨ho,_⟩
     ·cases hnn
     ·simp only [Option.some.injEq,Addr.mk.injEq,and_true] at hbb
      obtain ⟨rfl,rfl⟩:=hbb
      obtain ⟨c2,hc2,hk⟩:=he i hi
      rw [hce] at hc2
      cases hc2
      have hg':Z04 e (List.get (α:=El e) x ⟨i,hi⟩) (List.replicate (Z06 e) .O) p=some u:=by
       simp only [Z04,List.headD_cons,Tag.inner] at hg
       rw [Z4g _ _ _ hi] at hg
       exact hg
      have hfi:fps.getD i []=fps[i]'(by omega):=by rw [List.getD_eq_getElem?_getD,List.getElem?_eq_getElem (by omega)];rfl
      have hnf:fps.flatten.Nodup:=(List.nodup_cons.1 hn).2
      have hbn:b ∉ fps.flatten:=(List.nodup_cons.1 hn).1
      have hpf:=Z3M fps i (by omega)
      have hsubi:∀ c∈fps[i]'(by omega),c∈fps.flatten:=λc hc=>List.mem_flatten.2 ⟨_,List.getElem_mem _,hc⟩
      have hni:(fps[i]'(by omega)).Nodup:=((List.nodup_append.1 ((hpf.nodup_iff).1 hnf)).2.1)
      have hbnd:o+i * size e+size e<=o+cap * size e:=by
       have:(i+1) * size e<=cap * size e:=Nat.mul_le_mul_right _ (by omega)
       rw [Nat.add_mul,Nat.one_mul] at this
       omega
      rw [hfi] at hk
      obtain ⟨fpo,fpi,L⟩:=Rp.lens (path:=p) hk (by simp [Tag.inner]) hni (λy hy=>by
       cases hy;exact λhm=>hbn (hsubi _ hm)) hl hg'
      have hsub:∀ c∈fpo,c∈fps[i]'(by omega):=λc hc=>L.perm.symm.subset (List.mem_append_left _ hc)
      refine ⟨b::((fps.set i []).flatten++fpo),fpi,⟨?_,L.part,L.tags,?_,by simp [Z08],?_⟩⟩
      ·rw [List.cons_append]
       refine List.Perm.cons _ (hpf.trans ?_)
       rw [List.append_assoc]
       exact List.Perm.append_left _ L.perm
      ·intro _
       cases hfl:Z08 p with
       | true=>
        have h3:=L.flat hfl
        simp only [Option.map_some] at h3
        have hsz:=Z1w hfl hg'
        exact ⟨b,_,o+cap * size e,h3,by simp,by omega,hr.1⟩
       | false=>
        obtain ⟨b',o',m,h3,h4,h5⟩:=L.deep hfl
        exact ⟨b',o',m,h3,by simp [h4],h5⟩
      ·intro w' F' St' Al' v csv fpv x' tg' hs hv hvO hvr hp
       simp only [Z0K,List.headD_cons,Tag.inner,Option.map_eq_some_iff] at hs
       rw [Z4g _ _ _ hi] at hs
       obtain ⟨⟨xa,ta⟩,hs1,hs2⟩:=hs
       simp only [Prod.mk.injEq] at hs2
       obtain ⟨rfl,rfl⟩:=hs2
       obtain ⟨fpn,hpn,htn,hrn⟩:=L.put w' F' St' Al' v csv fpv xa ta hs1 hv hvO hvr (λc hc=>hp c (by simp [hc]))
       have hta:ta=List.replicate (Z06 e) .O:=by
        refine List.eq_replicate_iff.2 ⟨hrn.len.2,λt ht=>htn t ht⟩
       subst hta
       have hpb:=hp b (by simp)
       have hbase:∀ y,base'=some y->(Z08 p=true/\y=(b,o+i * size e+Z0g e p))\/(Z08 p=false/\y.1∈fps[i]'(by omega)):=by
        intro y hy
        cases hfl:Z08 p with
        | true=>
         have h3:=L.flat hfl
         rw [h3] at hy
         simp only [Option.map_some,Option.some.injEq] at hy
         exact .inl ⟨rfl,hy.symm⟩
        | false=>
         obtain ⟨b',o',m,h3,h4,h5⟩:=L.deep hfl
         rw [h3] at hy
         cases hy
         exact .inr ⟨rfl,hsub _ h4⟩
       have hcl:csv.length=size u.τ:=by rw [hvr.len.1,hv]
       have hrow:(Z3j e w' b (o+cap * size e))/\∀ k (hk:k<List.length (α:=El e) x) c,Z05 w b (o+k * size e) (size e)=some c ->
         Z05 w' b (o+k * size e) (size e)=some (if k=i then (if Z08 p then Z0c c (Z0g e p) csv else c) else c):=by
        cases hfl:Z08 p with
        | true=>
         have hsz:=Z1w hfl hg'
         have h3:base'=some (b,o+i * size e+Z0g e p):=by rw [L.flat hfl];rfl
         have h4:w'.heap[b]? = (Z0m w b (o+i * size e+Z0g e p) csv).heap[b]? := by rw [hpb.2.2,h3];rfl
         refine ⟨⟨(Z3O h4).2 (Z4Q (m:=o+cap * size e) (by omega) hr.1 hr.1),hr.2.imp id λhm=>(Z2E h4).2 (Z3E (m:=o+cap * size e) (by omega) hr.1 hm)⟩,λk hk c hc=> ?_⟩
         rw [Z11 h4]
         by_cases hki:k=i
         ·subst hki
          simp only [if_true]
          have:=Z3I (w:=w) (o':=o+k * size e+Z0g e p) (l:=csv) (by omega) (by omega) hc
          rw [show o+k * size e+Z0g e p-(o+k * size e)=Z0g e p by omega] at this
          exact this
         ·simp only [hki,if_false]
          refine Z2l ⟨o+cap * size e,by omega,hr.1⟩ ?_ hc
          rcases Nat.lt_or_gt_of_ne hki with hlt | hgt
          ·left
           have:(k+1) * size e<=i * size e:=Nat.mul_le_mul_right _ hlt
           rw [Nat.add_mul,Nat.one_mul] at this
           omega
          ·right
           have:(i+1) * size e<=k * size e:=Nat.mul_le_mul_right _ hgt
           rw [Nat.add_mul,Nat.one_mul] at this
           omega
        | false=>
         have h4:w'.heap[b]? = w.heap[b]? := by
          rw [hpb.2.2]
          cases hbs:base' with
          | none=>rfl
          | some y=>
           rcases hbase y hbs with ⟨hf,_⟩ | ⟨_,hm⟩
           ·rw [hfl] at hf;cases hf
           ·exact Z16 (λhe=>hbn (hsubi _ (by rw [he];exact hm)))
         refine ⟨⟨(Z3O h4).2 hr.1,hr.2.imp id (Z2E h4).2⟩,λk hk c hc=> ?_⟩
         rw [Z11 h4,hc]
         by_cases hki:k=i<;>simp [hki]
       refine ⟨b::(fps.set i fpn).flatten,?_,by simp,?_⟩
       ·rw [List.cons_append]
        refine List.Perm.cons _ ((Z5x fps i fpn (by omega)).trans ?_)
        rw [List.append_assoc]
        exact List.Perm.append_left _ hpn
       ·simp only [Z08,Bool.false_eq_true,if_false]
        refine ⟨.O,some ⟨b,o,none⟩,cap,rfl,by simp,by simpa using hlc,.inr (.inl ⟨rfl,b,o,fps.set i fpn,rfl,hpb.2.1 hal,rfl,by simpa using hlf,hrow.1,?_,λk hk=> ?_⟩)⟩
        ·rw [hpb.1,hF];simp
        ·have hk0:k<List.length (α:=El e) x:=by simpa using hk
         obtain ⟨c,hc,hkr⟩:=he k hk0
         refine ⟨_,hrow.2 k hk0 c hc,?_⟩
         by_cases hki:k=i
         ·subst hki
          rw [hce] at hc
          cases hc
          simp only [if_true]
          have e1:List.get (α:=El e) (List.set x k xa) ⟨k,hk⟩=xa:=by simp
          have e2:(fps.set k fpn).getD k []=fpn:=by
           rw [List.getD_eq_getElem?_getD,List.getElem?_set_self (by omega)];rfl
          rw [e1,e2]
          exact hrn
         ·simp only [hki,if_false]
          have e1:List.get (α:=El e) (List.set x i xa) ⟨k,hk⟩=List.get (α:=El e) x ⟨k,hk0⟩:=by
           simp only [List.get_eq_getElem];exact List.getElem_set_ne (Ne.symm hki) _
          have e2:(fps.set i fpn).getD k []=fps.getD k []:=by
           simp only [List.getD_eq_getElem?_getD];rw [List.getElem?_set_ne (Ne.symm hki)]
          rw [e1,e2]
          refine hkr.presO (by simp [Tag.inner]) λc hcm=> ?_
          have hck:c∈(fps.set i []).flatten:=by
           refine List.mem_flatten.2 ⟨fps[k]'(by omega),?_,?_⟩
           ·have:(fps.set i [])[k]'(by simp;omega)=fps[k]'(by omega):=List.getElem_set_ne (Ne.symm hki) _
            rw [<-this];exact List.getElem_mem _
           ·rw [List.getD_eq_getElem?_getD,List.getElem?_eq_getElem (by omega)] at hcm;exact hcm
          refine (hp c (by simp [hck])).keep ?_
          intro y hy hyc
          rcases hbase y hy with ⟨_,hyb⟩ | ⟨_,hm⟩
          ·rw [hyb] at hyc
           simp only at hyc
           refine hbn (List.mem_flatten.2 ⟨fps[k]'(by omega),List.getElem_mem _,?_⟩)
           rw [List.getD_eq_getElem?_getD,List.getElem?_eq_getElem (by omega)] at hcm
           rw [hyc];exact hcm
          ·have:=(List.nodup_append.1 ((hpf.nodup_iff).1 hnf)).2.2 c hck y.1 hm
           exact this hyc.symm
     ·cases ho
    ·cases hl
   ·cases hl
  ·cases hl
 | .fst::_,.int _,_,_,_,_,_,_,_,_,_,_,_,_,hl,_=>by simp [Z00] at hl
 | .fst::_,.bool,_,_,_,_,_,_,_,_,_,_,_,_,hl,_=>by simp [Z00] at hl
 | .fst::_,.str,_,_,_,_,_,_,_,_,_,_,_,_,hl,_=>by simp [Z00] at hl
 | .fst::_,.unit,_,_,_,_,_,_,_,_,_,_,_,_,hl,_=>by simp [Z00] at hl
 | .fst::_,.slice _,_,_,_,_,_,_,_,_,_,_,_,_,hl,_=>by simp [Z00] at hl
 | .snd::_,.int _,_,_,_,_,_,_,_,_,_,_,_,_,hl,_=>by simp [Z00] at hl
 | .snd::_,.bool,_,_,_,_,_,_,_,_,_,_,_,_,hl,_=>by simp [Z00] at hl
 | .snd::_,.str,_,_,_,_,_,_,_,_,_,_,_,_,hl,_=>by simp [Z00] at hl
 | .snd::_,.unit,_,_,_,_,_,_,_,_,_,_,_,_,hl,_=>by simp [Z00] at hl
 | .snd::_,.slice _,_,_,_,_,_,_,_,_,_,_,_,_,hl,_=>by simp [Z00] at hl
 | .idx _::_,.int _,_,_,_,_,_,_,_,_,_,_,_,_,hl,_=>by simp [Z00] at hl
 | .idx _::_,.bool,_,_,_,_,_,_,_,_,_,_,_,_,hl,_=>by simp [Z00] at hl
 | .idx _::_,.str,_,_,_,_,_,_,_,_,_,_,_,_,hl,_=>by simp [Z00] at hl
 | .idx _::_,.unit,_,_,_,_,_,_,_,_,_,_,_,_,hl,_=>by simp [Z00] at hl
 | .idx _::_,.pair _ _,_,_,_,_,_,_,_,_,_,_,_,_,hl,_=>by simp [Z00] at hl
end
end Go.PI
namespace Go.PI
theorem Z3f {w w':World} {F F':Nat->Nat} {St Al:Nat->Prop} (hS:∀ b,St b->Z07 w F w' F' b) :
  {path:List Step}->{τ:Ty}->{tg:List Tag}->{cs:List Value}->{x:El τ}->{fp:List Nat}->{base:Option (Nat×Nat)}->{r:List Value×Option (Nat×Nat)} ->
  Rp w F St Al τ tg cs x fp->(∀ b∈fp,Z07 w F w' F' b)->((∀ t∈tg,t.isN=false)\/∀ b,b<w.heap.size->Al b->Z07 w F w' F' b) ->
  Z00 w τ cs base path=some r->Z00 w' τ cs base path=some r
 | [],τ,tg,cs,x,fp,base,r,h,hf,hN,hl=>by simp only [Z00] at hl ⊢;exact hl
 | .fst::p,.pair a b,tg,cs,x,fp,base,r,h,hf,hN,hl=>by
  have i1:=h.len
  obtain ⟨t1,t2,c1,c2,f1,f2,rfl,rfl,rfl,h1,h2⟩:=h
  have i1:=h1.len
  simp only [Z00] at hl ⊢
  rw [<-i1.1] at hl ⊢
  rw [List.take_left'] at hl ⊢
  all_goals first | rfl | skip
  exact Z3f hS (path:=p) h1 (λb hb=>hf b (List.mem_append_left _ hb)) (hN.imp (λh t ht=>h t (List.mem_append_left _ ht)) id) hl
 | .snd::p,.pair a b,tg,cs,x,fp,base,r,h,hf,hN,hl=>by
  obtain ⟨t1,t2,c1,c2,f1,f2,rfl,rfl,rfl,h1,h2⟩:=h
  have i1:=h1.len
  simp only [Z00] at hl ⊢
  rw [<-i1.1] at hl ⊢
  rw [List.drop_left'] at hl ⊢
  all_goals first | rfl | skip
  exact Z3f hS (path:=p) h2 (λb hb=>hf b (List.mem_append_right _ hb)) (hN.imp (λh t ht=>h t (List.mem_append_right _ ht)) id) hl
 | .idx i::p,.slice e,tg,cs,x,fp,base,r,h,hf,hN,hl=>by
  obtain ⟨t,a,cap,rfl,rfl,hlc,h⟩:=h
  have hNe:((∀ t'∈List.replicate (Z06 e) t.inner,t'.isN=false)\/∀ b,b<w.heap.size->Al b->Z07 w F w' F' b):=
   hN.imp (λh t' ht'=>by
    obtain ⟨_,rfl⟩:=List.mem_replicate.1 ht'
    have:=h t (by simp)
    cases t<;>simp_all [Tag.isN,Tag.inner]) id
  simp only [Z00] at hl ⊢
  split at hl
  ·rename_i b o len cap' heq
   simp only [List.cons.injEq,Value.slice.injEq,and_true] at heq
   obtain ⟨rfl,rfl,rfl⟩:=heq
   split at hl
   ·rename_i hi
    split at hl
    ·rename_i cse hce
     simp only [hi,if_true]
     have hbd:o+i * size e+size e<=o+List.length (α:=El e) x * size e:=by
      have:(i+1) * size e<=List.length (α:=El e) x * size e:=Nat.mul_le_mul_right _ hi
      rw [Nat.add_mul,Nat.one_mul] at this
      omega
     rcases h with ⟨_,hn,_⟩ | ⟨ho,b',o',fps,hbb,hal,rfl,hlf,hr,hF,he⟩ | ⟨ho,rfl,h⟩
     ·cases hn
     ·simp only [Option.some.injEq,Addr.mk.injEq,and_true] at hbb
      obtain ⟨rfl,rfl⟩:=hbb
      obtain ⟨c2,hc2,hk⟩:=he i hi
      rw [hce] at hc2
      cases hc2
      rw [(hf b (by simp)).2.1 _ _ _ (by omega) hce]
      refine Z3f hS (path:=p) hk (λc hc=>hf c ?_) hNe hl
      refine List.mem_cons_of_mem _ (List.mem_flatten.2 ⟨_,?_,hc⟩)
      rw [List.getD_eq_getElem?_getD,List.getElem?_eq_getElem (by omega)]
      exact List.getElem_mem _
     ·rcases h with h | ⟨b',o',hbb,htb,hF,he⟩
      ·subst h;simp at hi
      ·simp only [Option.some.injEq,Addr.mk.injEq,and_true] at hbb
       obtain ⟨rfl,rfl⟩:=hbb
       obtain ⟨c2,hc2,hk⟩:=he i hi
       have hkb:Z07 w F w' F' b:=by
        rcases hN with hN | hN
        ·have:=hN t (by simp)
         cases t<;>simp_all [Tag.isN,Tag.own,Z5h]
        ·cases t with
         | S=>exact hS b htb
         | N=>exact hN b (Z0Y hce) htb
         | _=>cases ho
       rw [hkb.2.1 _ _ _ (by omega) hce]
       rw [hce] at hc2
       cases hc2
       exact Z3f hS (path:=p) hk (by simp) hNe hl
    ·cases hl
   ·cases hl
  ·cases hl
 | .fst::_,.int _,_,_,_,_,_,_,_,_,_,hl=>by simp [Z00] at hl
 | .fst::_,.bool,_,_,_,_,_,_,_,_,_,hl=>by simp [Z00] at hl
 | .fst::_,.str,_,_,_,_,_,_,_,_,_,hl=>by simp [Z00] at hl
 | .fst::_,.unit,_,_,_,_,_,_,_,_,_,hl=>by simp [Z00] at hl
 | .fst::_,.slice _,_,_,_,_,_,_,_,_,_,hl=>by simp [Z00] at hl
 | .snd::_,.int _,_,_,_,_,_,_,_,_,_,hl=>by simp [Z00] at hl
 | .snd::_,.bool,_,_,_,_,_,_,_,_,_,hl=>by simp [Z00] at hl
 | .snd::_,.str,_,_,_,_,_,_,_,_,_,hl=>by simp [Z00] at hl
 | .snd::_,.unit,_,_,_,_,_,_,_,_,_,hl=>by simp [Z00] at hl
 | .snd::_,.slice _,_,_,_,_,_,_,_,_,_,hl=>by simp [Z00] at hl
 | .idx _::_,.int _,_,_,_,_,_,_,_,_,_,hl=>by simp [Z00] at hl
 | .idx _::_,.bool,_,_,_,_,_,_,_,_,_,hl=>by simp [Z00] at hl
 | .idx _::_,.str,_,_,_,_,_,_,_,_,_,hl=>by simp [Z00] at hl
 | .idx _::_,.unit,_,_,_,_,_,_,_,_,_,hl=>by simp [Z00] at hl
 | .idx _::_,.pair _ _,_,_,_,_,_,_,_,_,_,hl=>by simp [Z00] at hl
inductive Who where
 | s (i:Nat) | c (i:Nat) | a (i:Nat) | x
 deriving DecidableEq
structure Ghost where
 F:Nat->Nat
 St:Nat->Prop
 who:Nat->Option Who
 fs:Nat->List Nat
 fb:Nat->List Nat
 ad:Nat->Nat
def Ghost.Al (G:Ghost) (b:Nat):Prop:=(∀ i,G.who b≠some (.a i))/\(G.who b=none->G.St b)
def Z02:Value->List Value
 | .tuple vs=>vs.toList.flatMap λv=>v.cells.toList
 | v=>v.cells.toList
def one:Value->Bool
 | .agg _=>false
 | .tuple _=>false
 | _=>true
def Z0f:Bool->Value->Prop
 | true,v=>∃ cs,v= .agg cs
 | false,v=>one v=true
theorem Z0f.cells {ag:Bool} {v:Value} (h:Z0f ag v):Z02 v=v.cells.toList:=by
 cases ag
 ·cases v<;>simp_all [Z0f,one,Z02]
 ·obtain ⟨cs,rfl⟩:=h;rfl
def Z1f:Ty->List Bool->List Value->Prop
 | τ,[ag],[v]=>Z0f ag v/\(Z02 v).length=size τ
 | .pair a b,ag::ag'::ags,v::vs=>Z0f ag v/\(Z02 v).length=size a/\Z1f b (ag'::ags) vs
 | _,_,_=>False
def Z09 (G:Ghost) (a:Act) (w:World) (p:Place):Option (List Value×Option (Nat×Nat)):=
 match p.box with
 | true=>match w.heap[G.ad p.root]? with
  | some (.cells c _ _)=>some (c.toList,some (G.ad p.root,0))
  | _=>none
 | false=>some (Z02 (a.tmps.getD p.root undef),none)
noncomputable def State.ct (σ:State) (p:Place):Option Ty:=(σ.content p).map (·.τ)
def Z0C (σ:State) (G:Ghost) (a:Act) (w:World) (p:Place) (cs:List Value) (base:Option (Nat×Nat)):Prop:=
 ∃ τ l b,σ.ct p=some τ/\Z09 G a w p=some (l,b)/\Z00 w τ l b p.path=some (cs,base)
def Z0x (σ:State) (G:Ghost) (a:Act) (w:World) (p:Place) (v:Value):Prop:=
 σ.ct p=none\/∃ cs b,Z0C σ G a w p cs (some b)/\v= .pointer (some ⟨b.1,b.2,none⟩)
def Z2F (w:World) (F:Nat->Nat) (St Al:Nat->Prop) (τ:Ty) (x:El τ) (v:Value):Prop:=
 ∃ b o cs,v= .pointer (some ⟨b,o,none⟩)/\Z05 w b o (size τ)=some cs/\St b/\o+size τ<=F b/\Rp w F St Al τ (List.replicate (Z06 τ) .S) cs x []
def SPs (w:World) (F:Nat->Nat) (St Al:Nat->Prop):List Ty->(τ:Ty)->El τ->List Value->Prop
 | [],_,_,us=>us=[]
 | [τ'],τ,x,us=>τ'=τ/\∃ u,us=[u]/\Z2F w F St Al τ x u
 | τ'::τ''::τs,.pair a b,x,us=>τ'=a/\∃ u us',us=u::us'/\Z2F w F St Al a x.1 u/\SPs w F St Al (τ''::τs) b x.2 us'
 | _,_,_,_=>False
theorem Z2F.pres {w w':World} {F F':Nat->Nat} {St Al St' Al':Nat->Prop} (hSt:∀ b,St b->St' b) (hAl:∀ b,b<w.heap.size->Al b->Al' b) (hS:∀ b,St b->Z07 w F w' F' b) {τ:Ty} {x:El τ} {v:Value} (h:Z2F w F St Al τ x v):Z2F w' F' St' Al' τ x v:=by
 obtain ⟨b,o,cs,h1,h2,h3,h4,h5⟩:=h
 have hk:=hS b h3
 exact ⟨b,o,cs,h1,hk.2.1 _ _ _ h4 h2,hSt b h3,Nat.le_trans h4 hk.1,h5.pres hSt hAl hS (by simp) (.inl λt ht=>by rw [(List.mem_replicate.1 ht).2];rfl)⟩
theorem SPs.pres {w w':World} {F F':Nat->Nat} {St Al St' Al':Nat->Prop} (hSt:∀ b,St b->St' b) (hAl:∀ b,b<w.heap.size->Al b->Al' b) (hS:∀ b,St b->Z07 w F w' F' b) :
  (τs:List Ty)->(τ:Ty)->(x:El τ)->(us:List Value)->SPs w F St Al τs τ x us->SPs w' F' St' Al' τs τ x us
 | [],_,_,_,h=>h
 | [_],_,_,_,h=>⟨h.1,let ⟨u,h2,h3⟩:=h.2;⟨u,h2,h3.pres hSt hAl hS⟩⟩
 | _::τ''::τs,.pair a b,x,_,h=>⟨h.1,let ⟨u,us',h2,h3,h4⟩:=h.2;⟨u,us',h2,h3.pres hSt hAl hS,SPs.pres hSt hAl hS (τ''::τs) b x.2 us' h4⟩⟩
 | _::_::_,.int _,_,_,h=>h.elim
 | _::_::_,.bool,_,_,h=>h.elim
 | _::_::_,.str,_,_,h=>h.elim
 | _::_::_,.unit,_,_,h=>h.elim
 | _::_::_,.slice _,_,_,h=>h.elim
def Z01 (σ:State) (G:Ghost) (a:Act) (w:World):TV->Value->List Nat->Prop
 | .dead,_,fp=>fp=[]
 | .un,v,fp=>v=undef/\fp=[]
 | .nil,v,fp=>v= .slice none 0 0/\fp=[]
 | .val u,v,fp=>Z0f u.ag v/\Rp w G.F G.St G.Al u.τ u.tg (Z02 v) u.x fp
 | .tup u ags,v,fp=>(∃ vs,v= .tuple vs/\Z1f u.τ ags vs.toList)/\Rp w G.F G.St G.Al u.τ u.tg (Z02 v) u.x fp
 | .ref p ag,v,fp=>fp=[]/\(σ.ct p=none\/∃ cs base,Z0C σ G a w p cs base/\Z02 v=cs/\Z0f ag v)
 | .ptr p,v,fp=>fp=[]/\p.box=true/\Z08 p.path=true/\Z0x σ G a w p v
 | .eptr u t,v,fp=>fp=[]/\t.own=false/\∃ b o cs,v= .pointer (some ⟨b,o,none⟩)/\Z05 w b o (size u.τ)=some cs/\Z5h G.St G.Al t b/\o+size u.τ<=G.F b /\
   (t.isN=false->∀ t'∈u.tg,t'.isN=false)/\Rp w G.F G.St G.Al u.τ u.tg cs u.x []
 | .eref p,v,fp=>fp=[]/\Z0x σ G a w p v
 | .sptr r τr p,v,fp=>fp=[]/\Z08 p=true/\∃ b o τ,v= .pointer (some ⟨b,o,none⟩)/\Z0d τr p=some τ/\(Z02 (a.tmps.getD r undef)).length=size τr /\
   Z05 w b o (size τ)=some (((Z02 (a.tmps.getD r undef)).drop (Z0g τr p)).take (size τ))/\G.St b/\o+size τ<=G.F b
 | .tref t ags,v,fp=>fp=[]/\∀ τ,σ.ct ⟨false,t,[]⟩=some τ->Z09 G a w ⟨false,t,[]⟩=some (Z02 v,none)/\∃ vs,v= .tuple vs/\Z1f τ ags vs.toList
 | .clos f ps,v,fp=>fp=[]/\∃ vs:Array Value,v= .func (.func f) #[] vs/\vs.size=ps.length/\∀ i (h:i<ps.length),ps[i].box=true/\Z08 ps[i].path=true/\Z0x σ G a w ps[i] (vs.getD i undef)
 | .sclos f τs u,v,fp=>fp=[]/\∃ us:Array Value,v= .func (.func f) #[] us/\SPs w G.F G.St G.Al τs u.τ u.x us.toList
structure Ext (M:Nat->Prop) (w w':World):Prop where
 os:w'.os=w.os
 tape:w'.tape=w.tape
 output:w'.output=w.output
 size:w.heap.size<=w'.heap.size
 block:∀ b,b<w.heap.size->¬ M b->w'.heap[b]? = w.heap[b]?
theorem Ext.refl (M:Nat->Prop) (w:World):Ext M w w:=⟨rfl,rfl,rfl,Nat.le_refl _,λ_ _ _=>rfl⟩
structure Base extends World where
 ad0:Nat->Nat
 F0:Nat->Nat
 St0:Nat->Prop
 np:Nat
 arg:Nat->Value
structure Org (W0:Base) (M:Nat->Prop) (G:Ghost):Prop where
 F:∀ b,b<W0.heap.size->¬ M b->G.F b=W0.F0 b
 St:∀ b,W0.St0 b->G.St b
 St':∀ b,G.St b->W0.St0 b\/W0.heap.size<=b\/M b
structure Inv (W0:Base) (M:Nat->Prop) (σ:State) (a:Act) (w:World) (G:Ghost) (xs:List Nat):Prop where
 defers:a.defers=[]
 len:a.tmps.size=σ.slots.length
 slot:∀ i,i<σ.slots.length->Z01 σ G a w (σ.slot i) (a.tmps.getD i undef) (G.fs i)
 box:∀ i v,σ.boxAt i=some v->(∃ c T,w.heap[G.ad i]? = some (.cells c T (0,0))/\Rp w G.F G.St G.Al v.τ v.tg c.toList v.x (G.fb i))/\G.who (G.ad i)=some (.a i)
 whoS:∀ i b,b∈G.fs i->G.who b=some (.s i)
 whoC:∀ i b,b∈G.fb i->G.who b=some (.c i)
 whoX:∀ b,b∈xs->G.who b=some .x
 nodS:∀ i,(G.fs i).Nodup
 nodC:∀ i,(G.fb i).Nodup
 nodX:xs.Nodup
 st:∀ b,G.St b->G.who b=none/\b<w.heap.size
 lt:∀ b z,G.who b=some z->b<w.heap.size/\(W0.heap.size<=b\/M b)
 ext:Ext M W0.toWorld w
 adx:∀ i,σ.slots.length<=i->G.ad i=W0.ad0 i
 org:Org W0 M G
 pin:∀ i,i<W0.np->a.tmps.getD i undef=W0.arg i
theorem Ghost.St_Al {W0:Base} {M:Nat->Prop} {σ:State} {a:Act} {w:World} {G:Ghost} {xs:List Nat} (I:Inv W0 M σ a w G xs):∀ b,G.St b->G.Al b:=
 λb hb=>⟨λi h=>(by rw [(I.st b hb).1] at h;cases h),λ_=>hb⟩
noncomputable def TV.noN:TV->Bool
 | .val u=>u.noN
 | .tup u _=>u.noN
 | .eptr _ t=> !t.isN
 | _=>true
def State.noN (σ:State):Prop:=(∀ i,(σ.slot i).noN=true)/\∀ i v,σ.boxAt i=some v->v.noN=true
theorem TVal.noN_iff {v:TVal}:v.noN=true↔∀ t∈v.tg,t.isN=false:=by
 unfold TVal.noN;rw [List.all_eq_true]
 constructor
 ·intro h t ht;have:=h t ht;cases t<;>simp_all [Tag.isN]
 ·intro h t ht;have:=h t ht;cases t<;>simp_all [Tag.isN]
section
variable {W0:Base} {M:Nat->Prop} {σ:State} {a:Act} {w:World} {G:Ghost} {xs:List Nat}
theorem Z0H {p:Place} {c:TVal} (I:Inv W0 M σ a w G xs) (h:σ.content p=some c) :
  ∃ l b fp,Z09 G a w p=some (l,b)/\Rp w G.F G.St G.Al c.τ c.tg l c.x fp /\
   ((p.box=true/\σ.boxAt p.root=some c/\fp=G.fb p.root/\b=some (G.ad p.root,0)) \/
    (p.box=false/\p.root<σ.slots.length/\fp=G.fs p.root/\b=none/\(σ.slot p.root= .val c\/∃ ags,σ.slot p.root= .tup c ags))):=by
 obtain ⟨box,root,path⟩:=p
 cases box with
 | true=>
  simp only [State.content] at h
  obtain ⟨⟨cs,T,hb,hr⟩,_⟩:=I.box root c h
  exact ⟨cs.toList,some (G.ad root,0),_,by simp [Z09,hb],hr,.inl ⟨rfl,h,rfl,rfl⟩⟩
 | false=>
  simp only [State.content] at h
  have hlt:root<σ.slots.length:=by
   rcases Nat.lt_or_ge root σ.slots.length with h1 | h1
   ·exact h1
   ·have:∀ (l:List TV) (i:Nat),l.length<=i->Z0v TV.dead l i= .dead:=by
     intro l
     induction l with
     | nil=>intro i _;rfl
     | cons t l ih=>intro i hi;cases i with
      | zero=>simp at hi
      | succ i=>exact ih i (by simpa using hi)
    simp [State.slot,this _ _ h1] at h
  have hs:=I.slot root hlt
  cases hsl:σ.slot root with
  | val v=>
   rw [hsl] at h hs
   cases h
   exact ⟨_,none,G.fs root,rfl,hs.2,.inr ⟨rfl,hlt,rfl,rfl,.inl rfl⟩⟩
  | tup v ags=>
   rw [hsl] at h hs
   cases h
   exact ⟨_,none,G.fs root,rfl,hs.2,.inr ⟨rfl,hlt,rfl,rfl,.inr ⟨ags,rfl⟩⟩⟩
  | _=>rw [hsl] at h;cases h
structure Same (σ:State) (w:World) (G:Ghost) (w':World) (G':Ghost):Prop where
 fs:G'.fs=G.fs
 fb:G'.fb=G.fb
 ad:G'.ad=G.ad
 who:∀ b z,G.who b=some z->z≠ .x->G'.who b=some z
 Al:∀ b,b<w.heap.size->G.Al b->G'.Al b
 St:∀ b,G.St b->G'.St b
 S:∀ b,G.St b->Z07 w G.F w' G'.F b
 own:∀ b z,G.who b=some z->(∀ i,z≠ .a i)->z≠ .x->Z07 w G.F w' G'.F b/\G'.F b=G.F b
 box:∀ i v,σ.boxAt i=some v->w'.heap[G.ad i]? = w.heap[G.ad i]?
 N:σ.noN\/∀ b,b<w.heap.size->G.Al b->Z07 w G.F w' G'.F b
theorem Z0C.world {w':World} {G':Ghost} (I:Inv W0 M σ a w G xs) (S:Same σ w G w' G') {p:Place} {cs:List Value} {base:Option (Nat×Nat)} (h:Z0C σ G a w p cs base) :
  Z0C σ G' a w' p cs base:=by
 obtain ⟨τ,l,b,hct,hr,hl⟩:=h
 obtain ⟨c,hc,rfl⟩:=Option.map_eq_some_iff.1 hct
 obtain ⟨l',b',fp,hr',hrp,hw⟩:=Z0H I hc
 rw [hr] at hr'
 cases hr'
 refine ⟨c.τ,l,b,hct,?_,?_⟩
 ·obtain ⟨box,root,path⟩:=p
  rcases hw with ⟨hb,hbx,_⟩ | ⟨hb,_⟩
  ·simp only at hb hbx;subst hb
   simp only [Z09] at hr ⊢
   rw [S.ad,S.box _ _ hbx]
   exact hr
  ·simp only at hb;subst hb
   exact hr
 ·refine Z3f S.S hrp (λx hx=> ?_) ?_ hl
  ·rcases hw with ⟨_,_,rfl,_⟩ | ⟨_,_,rfl,_⟩
   ·exact (S.own x _ (I.whoC _ x hx) (by simp) (by simp)).1
   ·exact (S.own x _ (I.whoS _ x hx) (by simp) (by simp)).1
  ·refine S.N.imp (λhn=> ?_) id
   rcases hw with ⟨_,hbx,_⟩ | ⟨_,_,_,_,hsl | ⟨ags,hsl⟩⟩
   ·exact TVal.noN_iff.1 (hn.2 _ _ hbx)
   ·have:=hn.1 p.root;rw [hsl] at this;exact TVal.noN_iff.1 this
   ·have:=hn.1 p.root;rw [hsl] at this;exact TVal.noN_iff.1 this
theorem Z0x.world {w':World} {G':Ghost} (I:Inv W0 M σ a w G xs) (S:Same σ w G w' G') {p:Place} {v:Value} (h:Z0x σ G a w p v):Z0x σ G' a w' p v:=
 h.imp id λ⟨cs,b,h1,h2⟩=>⟨cs,b,h1.world I S,h2⟩
theorem Rp.world {w':World} {G':Ghost} (S:Same σ w G w' G') {τ:Ty} {tg:List Tag} {cs:List Value} {x:El τ} {fp:List Nat} (h:Rp w G.F G.St G.Al τ tg cs x fp)
  (hf:∀ b∈fp,∃ z,G.who b=some z/\(∀ i,z≠ .a i)/\z≠ .x) (hN:σ.noN->∀ t∈tg,t.isN=false):Rp w' G'.F G'.St G'.Al τ tg cs x fp:=
 h.pres S.St S.Al S.S (λb hb=>let ⟨z,h1,h2,h3⟩:=hf b hb;S.own b z h1 h2 h3) (S.N.imp hN id)
theorem Z01.world {w':World} {G':Ghost} (I:Inv W0 M σ a w G xs) (S:Same σ w G w' G') {tv:TV} {v:Value} {fp:List Nat} (h:Z01 σ G a w tv v fp)
  (hf:∀ b∈fp,∃ z,G.who b=some z/\(∀ i,z≠ .a i)/\z≠ .x) (hN:σ.noN->tv.noN=true):Z01 σ G' a w' tv v fp:=by
 cases tv with
 | dead=>exact h
 | un=>exact h
 | nil=>exact h
 | val u=>exact ⟨h.1,h.2.world S hf λhn=>TVal.noN_iff.1 (hN hn)⟩
 | tup u ags=>exact ⟨h.1,h.2.world S hf λhn=>TVal.noN_iff.1 (hN hn)⟩
 | ref p ag=>exact ⟨h.1,h.2.imp id λ⟨cs,b,h1,h2⟩=>⟨cs,b,h1.world I S,h2⟩⟩
 | ptr p=>exact ⟨h.1,h.2.1,h.2.2.1,h.2.2.2.world I S⟩
 | eref p=>exact ⟨h.1,h.2.world I S⟩
 | tref t ags=>exact h
 | sptr r τr p=>
  obtain ⟨h1,h2,b,o,τ,h3,h4,h5,h6,h7,h8⟩:=h
  have hk:=S.S b h7
  exact ⟨h1,h2,b,o,τ,h3,h4,h5,hk.2.1 _ _ _ h8 h6,S.St b h7,Nat.le_trans h8 hk.1⟩
 | clos f ps=>
  obtain ⟨h1,vs,h2,h3,h4⟩:=h
  exact ⟨h1,vs,h2,h3,λi hi=>⟨(h4 i hi).1,(h4 i hi).2.1,(h4 i hi).2.2.world I S⟩⟩
 | sclos f τs u=>
  obtain ⟨h1,us,h2,h3⟩:=h
  exact ⟨h1,us,h2,SPs.pres S.St S.Al S.S _ _ _ _ h3⟩
 | eptr u t=>
  obtain ⟨h1,h2,b,o,cs,h3,h4,h5,h6,h7,h8⟩:=h
  have hk:Z07 w G.F w' G'.F b:=by
   rcases S.N with hn | hn
   ·have:=hN hn
    cases t<;>simp_all [TV.noN,Tag.isN,Tag.own,Z5h]
    exact S.S b h5
   ·cases t with
    | S=>exact S.S b h5
    | N=>exact hn b (Z0Y h4) h5
    | _=>cases h2
  refine ⟨h1,h2,b,o,cs,h3,hk.2.1 _ _ _ h6 h4,?_,Nat.le_trans h6 hk.1,h7,h8.world S (by simp) λhn=>h7 ?_⟩
  ·cases t with
   | S=>exact S.St b h5
   | N=>exact S.Al b (Z0Y h4) h5
   | _=>cases h2
  ·have:=hN hn
   cases t<;>simp_all [TV.noN,Tag.isN]
theorem Inv.world {w':World} {G':Ghost} (I:Inv W0 M σ a w G xs) (S:Same σ w G w' G') (hst:∀ b,G'.St b->G'.who b=none/\b<w'.heap.size)
  (hlt:∀ b z,G'.who b=some z->b<w'.heap.size/\(W0.heap.size<=b\/M b)) (he:Ext M W0.toWorld w') {xs':List Nat} (hx:∀ b∈xs',G'.who b=some .x) (hxn:xs'.Nodup) (ho:Org W0 M G')
  : Inv W0 M σ a w' G' xs' where
 defers:=I.defers
 len:=I.len
 slot i hi:=by
  rw [S.fs]
  refine (I.slot i hi).world I S (λb hb=>⟨_,I.whoS i b hb,by simp,by simp⟩) λhn=>hn.1 i
 box i v hv:=by
  obtain ⟨⟨c,T,hb,hr⟩,hw⟩:=I.box i v hv
  rw [S.ad,S.fb,S.box i v hv]
  refine ⟨⟨c,T,hb,hr.world S (λb hb=>⟨_,I.whoC i b hb,by simp,by simp⟩) λhn=>TVal.noN_iff.1 (hn.2 i v hv)⟩,?_⟩
  exact S.who _ _ hw (by simp)
 whoS i b hb:=by rw [S.fs] at hb;exact S.who b _ (I.whoS i b hb) (by simp)
 whoC i b hb:=by rw [S.fb] at hb;exact S.who b _ (I.whoC i b hb) (by simp)
 whoX:=hx
 nodS i:=by rw [S.fs];exact I.nodS i
 nodC i:=by rw [S.fb];exact I.nodC i
 nodX:=hxn
 st:=hst
 lt:=hlt
 ext:=he
 adx i hi:=by rw [S.ad];exact I.adx i hi
 org:=ho
 pin:=I.pin
end
end Go.PI
namespace Go.PI
theorem Z2g {α:Type} {d:α}:∀ (l:List α) (i:Nat),l.length<=i->Z0v d l i=d
 | [],_,_=>rfl
 | a::l,0,h=>by simp at h
 | a::l,i+1,h=>Z2g l i (by simpa using h)
theorem Z0G {α:Type}:∀ (l:List α) (i:Nat) (v:α),(Z0I l i v).length=l.length
 | [],_,_=>rfl
 | _::_,0,_=>rfl
 | _::l,i+1,v=>by simp [Z1j,Z0G l i v]
theorem Z0U {α:Type} {d:α}:∀ (l:List α) (i j:Nat) (v:α),Z0v d (Z0I l i v) j=if i=j/\i<l.length then v else Z0v d l j
 | [],i,j,v=>by simp [Z2w,Z2a,Z1j,Z0y,Z0t,Z0q]
 | a::l,0,0,v=>by simp [Z2w,Z2a,Z1j,Z0y,Z0t,Z0q]
 | a::l,0,j+1,v=>by simp [Z2w,Z2a,Z1j,Z0y,Z0t,Z0q]
 | a::l,i+1,0,v=>by simp [Z2w,Z2a,Z1j,Z0y,Z0t,Z0q]
 | a::l,i+1,j+1,v=>by simp [Z1j,Z0q,Z0U l i j v]
theorem Z2t {α:Type} {d:α} (f:α->α) (hf:f d=d):∀ (l:List α) (i:Nat),Z0v d (Z53 f l) i=f (Z0v d l i)
 | [],_=>hf.symm
 | a::l,0=>rfl
 | a::l,i+1=>Z2t f hf l i
theorem Z6v {α:Type}:∀ (l:List α) (i:Nat) (v:α),l.length<=i->Z0I l i v=l
 | [],_,_,_=>rfl
 | _::_,0,_,h=>by simp at h
 | a::l,i+1,v,h=>by simp [Z1j,Z6v l i v (by simpa using h)]
section
variable {W0:Base} {M:Nat->Prop} {σ:State} {a:Act} {w:World} {G:Ghost} {xs:List Nat}
def Z85 (σ σ':State):Prop:=∀ p,σ'.ct p=σ.ct p\/σ'.ct p=none
theorem Z0x.less {σ':State} (hL:Z85 σ σ') {p:Place} {v:Value} (h:Z0x σ G a w p v):Z0x σ' G a w p v:=by
 rcases hL p with hp | hp
 ·rcases h with h | ⟨cs,b,⟨τ,l,b',h1,h2⟩,h3⟩
  ·exact .inl (hp.trans h)
  ·exact .inr ⟨cs,b,⟨τ,l,b',hp.trans h1,h2⟩,h3⟩
 ·exact .inl hp
theorem Z01.less {σ':State} (hL:Z85 σ σ') {tv:TV} {v:Value} {fp:List Nat} (h:Z01 σ G a w tv v fp):Z01 σ' G a w tv v fp:=by
 cases tv with
 | dead=>exact h
 | un=>exact h
 | nil=>exact h
 | val u=>exact h
 | tup u ags=>exact h
 | eptr u t=>exact h
 | sclos f τs u=>exact h
 | sptr r τr p=>exact h
 | ptr p=>exact ⟨h.1,h.2.1,h.2.2.1,h.2.2.2.less hL⟩
 | eref p=>exact ⟨h.1,h.2.less hL⟩
 | tref t ags=>
  refine ⟨h.1,λτ hτ=> ?_⟩
  rcases hL ⟨false,t,[]⟩ with hp | hp
  ·exact h.2 τ (hp.symm.trans hτ)
  ·rw [hp] at hτ;cases hτ
 | clos f ps=>
  obtain ⟨h1,vs,h2,h3,h4⟩:=h
  exact ⟨h1,vs,h2,h3,λi hi=>⟨(h4 i hi).1,(h4 i hi).2.1,(h4 i hi).2.2.less hL⟩⟩
 | ref p ag=>
  refine ⟨h.1,?_⟩
  rcases hL p with hp | hp
  ·rcases h.2 with h | ⟨cs,b,⟨τ,l,b',h1,h2⟩,h3⟩
   ·exact .inl (hp.trans h)
   ·exact .inr ⟨cs,b,⟨τ,l,b',hp.trans h1,h2⟩,h3⟩
  ·exact .inl hp
theorem Inv.drop (I:Inv W0 M σ a w G xs) {σ':State} (hlen:σ'.slots.length=σ.slots.length) (hs:∀ i,σ'.slot i=σ.slot i\/σ'.slot i= .dead)
  (hb:∀ i,σ'.boxAt i=σ.boxAt i\/σ'.boxAt i=none):∃ fs,Inv W0 M σ' a w { G with fs:=fs } xs/\∀ i,σ'.slot i=σ.slot i->fs i=G.fs i:=by
 classical
 have hL:Z85 σ σ':=by
  intro p
  obtain ⟨box,root,path⟩:=p
  cases box with
  | true=>
   simp only [State.ct,State.content]
   rcases hb root with h | h<;>simp [h]
  | false=>
   simp only [State.ct,State.content]
   rcases hs root with h | h<;>simp [h]
 refine ⟨λi=>if σ'.slot i=σ.slot i then G.fs i else [],⟨I.defers,by rw [hlen];exact I.len,λi hi=> ?_,λi v hv=> ?_,λi b hm=> ?_,I.whoC,I.whoX,λi=> ?_,I.nodC,I.nodX,I.st,I.lt,I.ext,λi hi=>I.adx i (by rw [<-hlen];exact hi),⟨I.org.F,I.org.St,I.org.St'⟩,I.pin⟩,λi hi=>by simp [hi]⟩
 ·simp only []
  by_cases he:σ'.slot i=σ.slot i
  ·simp only [he,if_true]
   exact (I.slot i (by rw [<-hlen];exact hi)).less hL
  ·simp only [he,if_false]
   rw [(hs i).resolve_left he]
   rfl
 ·rcases hb i with h | h
  ·exact I.box i v (h ▸ hv)
  ·rw [h] at hv;cases hv
 ·simp only [] at hm
  split at hm
  ·exact I.whoS i b hm
  ·simp at hm
 ·simp only []
  split
  ·exact I.nodS i
  ·simp
theorem Z0i (σ:State) (box:Bool) (root i:Nat):(σ.loosen box root).slot i=TV.loosen box root (σ.slot i):=Z2t _ rfl _ _
theorem Z5j (σ:State) (root i:Nat):(σ.unpoint root).slot i=TV.unpoint root (σ.slot i):=Z2t _ rfl _ _
theorem Z1y (σ:State) (i:Nat):σ.kill.slot i=TV.kill (σ.slot i):=Z2t _ rfl _ _
theorem Z2U (σ:State) (i:Nat):σ.kill.boxAt i=Z2T (σ.boxAt i):=Z2t _ rfl _ _
theorem TV.loosen_or (box:Bool) (root:Nat) (tv:TV):TV.loosen box root tv=tv\/TV.loosen box root tv= .dead:=by
 cases tv<;>first | exact .inl rfl | (simp only [TV.loosen];split<;>simp)
theorem TV.unpoint_or (root:Nat) (tv:TV):TV.unpoint root tv=tv\/TV.unpoint root tv= .dead:=by
 cases tv<;>first | exact .inl rfl | (simp only [TV.unpoint];split<;>simp)
theorem TV.kill_or (tv:TV):TV.kill tv=tv\/TV.kill tv= .dead:=by
 cases tv<;>first | exact .inl rfl | (simp only [TV.kill];split<;>simp)
theorem Inv.loosen (I:Inv W0 M σ a w G xs) (box:Bool) (root:Nat):∃ fs,Inv W0 M (σ.loosen box root) a w { G with fs:=fs } xs/\∀ i,(σ.loosen box root).slot i=σ.slot i->fs i=G.fs i:=
 I.drop (by simp [State.loosen,Z0b]) (λi=>by rw [Z0i];exact TV.loosen_or _ _ _) (λi=> .inl rfl)
theorem Inv.unpoint (I:Inv W0 M σ a w G xs) (root:Nat):∃ fs,Inv W0 M (σ.unpoint root) a w { G with fs:=fs } xs/\∀ i,(σ.unpoint root).slot i=σ.slot i->fs i=G.fs i:=
 I.drop (by simp [State.unpoint,Z0b]) (λi=>by rw [Z5j];exact TV.unpoint_or _ _) (λi=> .inl rfl)
theorem Inv.kill (I:Inv W0 M σ a w G xs):∃ fs,Inv W0 M σ.kill a w { G with fs:=fs } xs/\∀ i,σ.kill.slot i=σ.slot i->fs i=G.fs i:=
 I.drop (by simp [State.kill,Z0b]) (λi=>by rw [Z1y];exact TV.kill_or _) (λi=>by rw [Z2U];cases σ.boxAt i with | none=>exact .inl rfl | some v=>simp only [Z2T];split<;>simp)
theorem Z2u (σ:State):σ.kill.noN:=by
 constructor
 ·intro i
  rw [Z1y]
  cases σ.slot i with
  | val v=>simp only [TV.kill];split<;>simp_all [TV.noN]
  | tup v ags=>simp only [TV.kill];split<;>simp_all [TV.noN]
  | eptr v t=>simp only [TV.kill];split<;>simp_all [TV.noN]
  | _=>rfl
 ·intro i v hv
  rw [Z2U] at hv
  cases hb:σ.boxAt i with
  | none=>rw [hb] at hv;cases hv
  | some u=>
   rw [hb] at hv
   simp only [Z2T] at hv
   split at hv
   ·cases hv;assumption
   ·cases hv
theorem Z01.ghost {G':Ghost} (hF:G'.F=G.F) (hS:G'.St=G.St) (had:∀ i,G'.ad i=G.ad i) (hA:G'.Al=G.Al) {tv:TV} {v:Value} {fp:List Nat} (h:Z01 σ G a w tv v fp):Z01 σ G' a w tv v fp:=by
 have hr:∀ p,Z09 G' a w p=Z09 G a w p:=λp=>by unfold Z09;rw [had]
 have hp:∀ p v,Z0x σ G a w p v->Z0x σ G' a w p v:=λp v h=>h.imp id λ⟨cs,b,⟨τ,l,b',h1,h2,h3⟩,h4⟩=>⟨cs,b,⟨τ,l,b',h1,by rw [hr];exact h2,h3⟩,h4⟩
 cases tv with
 | dead=>exact h
 | un=>exact h
 | nil=>exact h
 | val u=>simp only [Z01] at h ⊢;rw [hF,hS,hA];exact h
 | tup u ags=>simp only [Z01] at h ⊢;rw [hF,hS,hA];exact h
 | eptr u t=>simp only [Z01] at h ⊢;rw [hF,hS,hA];exact h
 | sclos f τs u=>simp only [Z01] at h ⊢;rw [hF,hS,hA];exact h
 | sptr r τr p=>simp only [Z01] at h ⊢;rw [hF,hS];exact h
 | ptr p=>exact ⟨h.1,h.2.1,h.2.2.1,hp _ _ h.2.2.2⟩
 | eref p=>exact ⟨h.1,hp _ _ h.2⟩
 | tref t ags=>exact ⟨h.1,λτ hτ=>⟨by rw [hr];exact (h.2 τ hτ).1,(h.2 τ hτ).2⟩⟩
 | clos f ps=>
  obtain ⟨h1,vs,h2,h3,h4⟩:=h
  exact ⟨h1,vs,h2,h3,λi hi=>⟨(h4 i hi).1,(h4 i hi).2.1,hp _ _ (h4 i hi).2.2⟩⟩
 | ref p ag=>exact ⟨h.1,h.2.imp id λ⟨cs,b,⟨τ,l,b',h1,h2,h3⟩,h4⟩=>⟨cs,b,⟨τ,l,b',h1,by rw [hr];exact h2,h3⟩,h4⟩⟩
end
structure Sim (G G':Ghost):Prop where
 F:G'.F=G.F
 St:G'.St=G.St
 ad:G'.ad=G.ad
 Al:G'.Al=G.Al
 bx:∀ b i,G'.who b=some (.a i)↔G.who b=some (.a i)
theorem Sim.refl (G:Ghost):Sim G G:=⟨rfl,rfl,rfl,rfl,λ_ _=>Iff.rfl⟩
theorem Sim.trans {G1 G2 G3:Ghost} (h:Sim G1 G2) (k:Sim G2 G3):Sim G1 G3:=
 ⟨k.F.trans h.F,k.St.trans h.St,k.ad.trans h.ad,k.Al.trans h.Al,λb i=>(k.bx b i).trans (h.bx b i)⟩
theorem Sim.fs (G:Ghost) (fs:Nat->List Nat):Sim G { G with fs:=fs }:=⟨rfl,rfl,rfl,rfl,λ_ _=>Iff.rfl⟩
end Go.PI
namespace Go.PI
def TV.places:TV->List Place
 | .ref p _=>[p]
 | .ptr p=>[p]
 | .eref p=>[p]
 | .tref t _=>[⟨false,t,[]⟩]
 | .clos _ ps=>ps
 | _=>[]
section
variable {W0:Base} {M:Nat->Prop} {σ:State} {a:Act} {w:World} {G:Ghost} {xs:List Nat}
theorem Z01.move {σ':State} {a':Act} {G':Ghost} {tv:TV} {v:Value} {fp:List Nat}
  (hp:∀ p∈tv.places,σ'.ct p=none\/(σ'.ct p=σ.ct p/\Z09 G' a' w p=Z09 G a w p))
  (hF:G'.F=G.F) (hS:G'.St=G.St) (hA:G'.Al=G.Al) (h:Z01 σ G a w tv v fp) (hmir:∀ r τ p,tv= .sptr r τ p->a'.tmps.getD r undef=a.tmps.getD r undef:=by intros;rfl):Z01 σ' G' a' w tv v fp:=by
 have hpt:∀ p∈tv.places,∀ v,Z0x σ G a w p v->Z0x σ' G' a' w p v:=by
  intro p hm v h
  rcases hp p hm with h0 | ⟨h1,h2⟩
  ·exact .inl h0
  ·rcases h with h | ⟨cs,b,⟨τ,l,b',h3,h4,h5⟩,h6⟩
   ·exact .inl (h1.trans h)
   ·exact .inr ⟨cs,b,⟨τ,l,b',h1.trans h3,h2.trans h4,h5⟩,h6⟩
 cases tv with
 | dead=>exact h
 | un=>exact h
 | nil=>exact h
 | val u=>simp only [Z01] at h ⊢;rw [hF,hS,hA];exact h
 | tup u ags=>simp only [Z01] at h ⊢;rw [hF,hS,hA];exact h
 | eptr u t=>simp only [Z01] at h ⊢;rw [hF,hS,hA];exact h
 | sclos f τs u=>simp only [Z01] at h ⊢;rw [hF,hS,hA];exact h
 | sptr r τr p=>simp only [Z01] at h ⊢;rw [hF,hS,hmir r τr p rfl];exact h
 | ptr p=>exact ⟨h.1,h.2.1,h.2.2.1,hpt p (by simp [TV.places]) _ h.2.2.2⟩
 | eref p=>exact ⟨h.1,hpt p (by simp [TV.places]) _ h.2⟩
 | tref t ags=>
  refine ⟨h.1,λτ hτ=> ?_⟩
  rcases hp ⟨false,t,[]⟩ (by simp [TV.places]) with h0 | ⟨h1,h2⟩
  ·rw [h0] at hτ;cases hτ
  ·rw [h2];exact h.2 τ (h1.symm.trans hτ)
 | clos f ps=>
  obtain ⟨h1,vs,h2,h3,h4⟩:=h
  exact ⟨h1,vs,h2,h3,λi hi=>⟨(h4 i hi).1,(h4 i hi).2.1,hpt _ (by simp [TV.places]) _ (h4 i hi).2.2⟩⟩
 | ref p ag=>
  refine ⟨h.1,?_⟩
  rcases hp p (by simp [TV.places]) with h0 | ⟨h1,h2⟩
  ·exact .inl h0
  ·rcases h.2 with h | ⟨cs,b,⟨τ,l,b',h3,h4,h5⟩,h6⟩
   ·exact .inl (h1.trans h)
   ·exact .inr ⟨cs,b,⟨τ,l,b',h1.trans h3,h2.trans h4,h5⟩,h6⟩
theorem Inv.sub (I:Inv W0 M σ a w G xs) {ys:List Nat} (h:∀ b∈ys,b∈xs) (hn:ys.Nodup):Inv W0 M σ a w G ys:=
 { I with whoX:=λb hb=>I.whoX b (h b hb),nodX:=hn }
theorem Z1m (σ:State) (r:Nat) (path:List Step):σ.ct ⟨false,r,path⟩=match σ.slot r with | .val v=>some v.τ | .tup v _=>some v.τ | _=>none:=by
 unfold State.ct State.content
 simp only []
 cases σ.slot r<;>rfl
theorem Z1q (σ:State) (r:Nat) (path:List Step):σ.ct ⟨true,r,path⟩=(σ.boxAt r).map (·.τ):=rfl
theorem Z8J (σ:State) (b:Bool) (r:Nat) (p:Place):(σ.loosen b r).ct p=σ.ct p:=by
 obtain ⟨bx,r',path⟩:=p
 cases bx with
 | true=>rfl
 | false=>
  rw [Z1m,Z1m,Z0i]
  cases σ.slot r' with
  | ref q ag=>rcases TV.loosen_or b r (.ref q ag) with h | h<;>rw [h]
  | eref q=>rcases TV.loosen_or b r (.eref q) with h | h<;>rw [h]
  | tref t ags=>rcases TV.loosen_or b r (.tref t ags) with h | h<;>rw [h]
  | _=>rfl
theorem Inv.put {fp:List Nat} (I:Inv W0 M σ a w G (fp++xs)) {i:Nat} {tv:TV} {v:Value} (h:Z01 σ G a w tv v fp) (hpin:i<W0.np->v=W0.arg i) (hmir:((∀ τ p,tv≠ .sptr i τ p)/\∀ j τ p,σ.slot j≠ .sptr i τ p)\/v=a.tmps.getD i undef) :
  ∃ G',Inv W0 M (σ.put i tv) (a.put (some i) v) w G' xs/\Sim G G':=by
 classical
 obtain ⟨fs1,I1,hfs⟩:=I.loosen false i
 have hslot:∀ j,(σ.put i tv).slot j=if i=j/\i<σ.slots.length then tv else (σ.loosen false i).slot j:=by
  intro j
  unfold State.put State.slot
  simp only []
  rw [Z0U]
  simp [State.loosen,Z0b]
 have hbox:∀ j,(σ.put i tv).boxAt j=σ.boxAt j:=λj=>rfl
 by_cases hi:i<σ.slots.length
 case neg=>
  refine ⟨{ G with fs:=fs1 },?_,Sim.fs _ _⟩
  have e1:σ.put i tv=σ.loosen false i:=by
   unfold State.put
   rw [Z6v _ _ _ (by simp [State.loosen,Z0b];omega)]
   rfl
  have e2:a.put (some i) v=a:=by
   have:a.tmps.size<=i:=by rw [I.len];omega
   simp only [Act.put]
   rw [Array.setIfInBounds_eq_of_size_le this]
  rw [e1,e2]
  exact I1.sub (λb hb=>List.mem_append_right _ hb) (List.nodup_append.1 I.nodX).2.1
 case pos=>
 have hti:∀ j,(a.put (some i) v).tmps.getD j undef=if i=j then v else a.tmps.getD j undef:=by
  intro j
  simp only [Act.put]
  by_cases hj:i=j
  ·subst hj
   simp only [if_true]
   rw [Array.getD_eq_getD_getElem?,Array.getElem?_setIfInBounds_self_of_lt (by rw [I.len];exact hi)];rfl
  ·simp only [hj,if_false]
   rw [Array.getD_eq_getD_getElem?,Array.getElem?_setIfInBounds_ne hj,<-Array.getD_eq_getD_getElem?]
 let G':Ghost:={ G with who:=λb=>if b∈fp then some (.s i) else G.who b,fs:=λj=>if j=i then fp else fs1 j }
 have hbx:∀ b k,G'.who b=some (.a k)↔G.who b=some (.a k):=by
  intro b k
  show (if b∈fp then some (Who.s i) else G.who b)=some (.a k)↔_
  by_cases hb:b∈fp
  ·have:=I.whoX b (List.mem_append_left _ hb)
   rw [this];simp [hb]
  ·simp [hb]
 have hA:G'.Al=G.Al:=by
  funext b
  apply propext
  show ((∀ k,(if b∈fp then some (Who.s i) else G.who b)≠some (.a k))/\((if b∈fp then some (Who.s i) else G.who b)=none->G.St b))↔_
  by_cases hb:b∈fp
  ·simp only [hb,if_true]
   have:=I.whoX b (List.mem_append_left _ hb)
   constructor
   ·intro _;exact ⟨λk=>(by rw [this];simp),λh=>(by rw [this] at h;cases h)⟩
   ·intro _;exact ⟨λk=>(by simp),λh=>(by cases h)⟩
  ·simp only [hb,if_false];rfl
 have hctb:∀ p:Place,p.box=true->(σ.put i tv).ct p=σ.ct p/\Z09 G' (a.put (some i) v) w p=Z09 G a w p:=by
  rintro ⟨bx,r,path⟩ hbx
  simp only at hbx
  subst hbx
  exact ⟨rfl,rfl⟩
 have hcts:∀ p:Place,p.box=false->p.root≠i->(σ.put i tv).ct p=(σ.loosen false i).ct p/\Z09 G' (a.put (some i) v) w p=Z09 { G with fs:=fs1 } a w p:=by
  rintro ⟨bx,r,path⟩ hbx hr
  simp only at hbx hr
  subst hbx
  refine ⟨?_,?_⟩
  ·rw [Z1m,Z1m,hslot]
   simp [Ne.symm hr]
  ·simp only [Z09]
   rw [hti]
   simp [Ne.symm hr]
 refine ⟨G',⟨I.defers,?_,λj hj=> ?_,λj u hu=> ?_,λj b hb=> ?_,λj b hb=> ?_,λb hb=> ?_,λj=> ?_,I.nodC,(List.nodup_append.1 I.nodX).2.1,λb hb=> ?_,λb z hb=> ?_,I.ext,λj hj=>I.adx j (by simpa [State.put,Z0G,State.loosen,Z0b] using hj),⟨I.org.F,I.org.St,I.org.St'⟩,λj hj=> ?_⟩,rfl,rfl,rfl,hA,hbx⟩
 ·simp only [Act.put,Array.size_setIfInBounds,State.put,Z0G,State.loosen,Z0b,List.length_map];exact I.len
 ·have hj':j<σ.slots.length:=by simpa [State.put,Z0G,State.loosen,Z0b] using hj
  rw [hslot,hti]
  by_cases hij:i=j
  ·subst hij
   simp only [hi,and_self,if_true]
   show Z01 _ G' _ _ _ _ (if i=i then fp else fs1 i)
   simp only [if_true]
   refine Z01.move (G:=G) (a:=a) (σ:=σ) (λp hp=> ?_) rfl rfl hA h (λr τ p htv=>by
    rw [hti]
    by_cases hir:i=r
    ·subst hir
     rcases hmir with hm | hm
     ·exact absurd htv (hm.1 τ p)
     ·rw [if_pos rfl];exact hm
    ·rw [if_neg hir])
   cases hbx:p.box with
   | true=>exact .inr (hctb p hbx)
   | false=>
    by_cases hr:p.root=i
    ·left
     obtain ⟨bx,r,path⟩:=p
     simp only at hbx hr
     subst hbx hr
     rw [Z1m,hslot]
     simp only [hi,and_self,if_true]
     cases tv<;>first | rfl | (simp [TV.places] at hp)
    ·have:=hcts p hbx hr
     obtain ⟨bx,r,path⟩:=p
     simp only at hbx hr
     subst hbx
     have hle:=Z8J σ false i ⟨false,r,path⟩
     exact .inr ⟨this.1.trans hle,this.2⟩
  ·simp only [hij,false_and,if_false]
   have hne:j≠i:=λh=>hij h.symm
   have hs:=I1.slot j (by simpa [State.loosen,Z0b] using hj')
   show Z01 _ G' _ _ _ _ (if j=i then fp else fs1 j)
   simp only [hne,if_false]
   refine Z01.move (G:={ G with fs:=fs1 }) (λp hp=> ?_) rfl rfl hA hs (λr τ p htv=>by
    rw [hti]
    by_cases hir:i=r
    ·subst hir
     rcases hmir with hm | hm
     ·have h3:=Z0i σ false i j
      rw [htv] at h3
      cases hsl:σ.slot j with
      | sptr r2 τ2 p2=>
       rw [hsl] at h3
       simp only [TV.loosen,TV.sptr.injEq] at h3
       obtain ⟨rfl,rfl,rfl⟩:=h3
       exact absurd hsl (hm.2 j τ p)
      | ref q ag=>rw [hsl] at h3;rcases TV.loosen_or false i (.ref q ag) with h4 | h4<;>rw [h4] at h3<;>cases h3
      | eref q=>rw [hsl] at h3;rcases TV.loosen_or false i (.eref q) with h4 | h4<;>rw [h4] at h3<;>cases h3
      | tref t ags=>rw [hsl] at h3;rcases TV.loosen_or false i (.tref t ags) with h4 | h4<;>rw [h4] at h3<;>cases h3
      | _=>rw [hsl] at h3;simp [TV.loosen] at h3
     ·rw [if_pos rfl];exact hm
    ·rw [if_neg hir])
   cases hbx:p.box with
   | true=>exact .inr ⟨(hctb p hbx).1.trans (by obtain ⟨bx,r,path⟩:=p;simp only at hbx;subst hbx;rfl),(hctb p hbx).2⟩
   | false=>
    have hr:p.root≠i:=by
     intro hr
     rw [Z0i] at hp hs
     cases hsl:σ.slot j with
     | ref q ag=>
      rw [hsl] at hp
      simp only [TV.loosen] at hp
      split at hp
      ·simp [TV.places] at hp
      ·rename_i hc
       simp only [TV.places,List.mem_singleton] at hp
       subst hp
       exact hc (by simp [hbx,hr])
     | tref t' ags=>
      rw [hsl] at hp
      simp only [TV.loosen] at hp
      split at hp
      ·simp [TV.places] at hp
      ·rename_i hc
       simp only [TV.places,List.mem_singleton] at hp
       subst hp
       exact hc (by simp at hr;simp [hr])
     | eref q=>
      rw [hsl] at hp
      simp only [TV.loosen] at hp
      split at hp
      ·simp [TV.places] at hp
      ·rename_i hc
       simp only [TV.places,List.mem_singleton] at hp
       subst hp
       exact hc (by simp [hbx,hr])
     | ptr q=>
      rw [hsl] at hp hs
      simp only [TV.loosen,TV.places,List.mem_singleton] at hp
      subst hp
      have:=hs.2.1
      rw [hbx] at this
      cases this
     | clos f ps=>
      rw [hsl] at hp hs
      simp only [TV.loosen,TV.places] at hp
      obtain ⟨_,vs,_,_,h4⟩:=hs
      obtain ⟨k,hk,rfl⟩:=List.mem_iff_getElem.1 hp
      have:=(h4 k hk).1
      rw [hbx] at this
      cases this
     | _=>rw [hsl] at hp;simp [TV.loosen,TV.places] at hp
    exact .inr (hcts p hbx hr)
 ·obtain ⟨⟨c,T,hc,hr⟩,hw⟩:=I.box j u hu
  refine ⟨⟨c,T,hc,?_⟩,?_⟩
  ·rw [hA];exact hr
  ·show (if G.ad j∈fp then some (Who.s i) else G.who (G.ad j))=_
   split
   ·rename_i hm
    have:=I.whoX _ (List.mem_append_left _ hm)
    rw [this] at hw
    cases hw
   ·exact hw
 ·show (if b∈fp then some (Who.s i) else G.who b)=_
  change b∈(if j=i then fp else fs1 j) at hb
  by_cases hji:j=i
  ·subst hji
   simp only [if_true] at hb
   simp [hb]
  ·simp only [hji,if_false] at hb
   have:=I1.whoS j b hb
   split
   ·rename_i hm
    have h2:=I.whoX b (List.mem_append_left _ hm)
    change G.who b=_ at this
    rw [h2] at this
    cases this
   ·exact this
 ·show (if b∈fp then some (Who.s i) else G.who b)=_
  have:=I.whoC j b hb
  split
  ·rename_i hm
   have h2:=I.whoX b (List.mem_append_left _ hm)
   rw [h2] at this
   cases this
  ·exact this
 ·show (if b∈fp then some (Who.s i) else G.who b)=_
  split
  ·rename_i hm
   exact absurd rfl ((List.nodup_append.1 I.nodX).2.2 b hm b hb)
  ·exact I.whoX b (List.mem_append_right _ hb)
 ·show (if j=i then fp else fs1 j).Nodup
  split
  ·exact (List.nodup_append.1 I.nodX).1
  ·exact I1.nodS j
 ·refine ⟨?_,(I.st b hb).2⟩
  show (if b∈fp then some (Who.s i) else G.who b)=_
  split
  ·rename_i hm
   have:=I.whoX b (List.mem_append_left _ hm)
   rw [(I.st b hb).1] at this
   cases this
  ·exact (I.st b hb).1
 ·change (if b∈fp then some (Who.s i) else G.who b)=some z at hb
  split at hb
  ·rename_i hm
   exact I.lt b _ (I.whoX b (List.mem_append_left _ hm))
  ·exact I.lt b z hb
 ·rw [hti]
  split
  ·rename_i hij
   subst hij
   exact hpin hj
  ·exact I.pin j hj
theorem Z3B (σ:State) (i j:Nat):(σ.unmir i).slot j=TV.unmir i (σ.slot j):=Z2t _ rfl _ _
theorem Z7G (i:Nat) (tv:TV):TV.unmir i tv=tv\/TV.unmir i tv= .dead:=by
 cases tv<;>first | exact .inl rfl | skip
 simp only [TV.unmir]
 split
 ·exact .inr rfl
 ·exact .inl rfl
theorem Z7F (i:Nat) (tv:TV) (τ:Ty) (p:List Step):TV.unmir i tv≠ .sptr i τ p:=by
 cases tv<;>simp only [TV.unmir]<;>first | (intro h;cases h;done) | skip
 rename_i r τ' p'
 split
 ·intro h;cases h
 ·rename_i hc
  intro h
  cases h
  simp at hc
theorem Z01.unmired {i:Nat} {tv:TV} {v:Value} {fp:List Nat} (h:Z01 σ G a w tv v fp):Z01 (σ.unmir i) G a w tv v fp:=by
 refine Z01.move (λp _=> .inr ⟨?_,rfl⟩) rfl rfl rfl h
 obtain ⟨bx,r,path⟩:=p
 cases bx with
 | true=>rfl
 | false=>
  rw [Z1m,Z1m,Z3B]
  cases hs:σ.slot r with
  | sptr r2 τ2 p2=>rcases Z7G i (.sptr r2 τ2 p2) with h4 | h4<;>rw [h4]
  | _=>rfl
theorem Inv.puto {fp:List Nat} (I:Inv W0 M σ a w G (fp++xs)) {d:Option Nat} {tv:TV} {v:Value} (h:Z01 σ G a w tv v fp) (hpin:∀ i,d=some i->i<W0.np->v=W0.arg i) :
  ∃ G',Inv W0 M (σ.puto d tv) (a.put d v) w G' xs/\Sim G G':=by
 cases d with
 | none=>exact ⟨G,I.sub (λb hb=>List.mem_append_right _ hb) (List.nodup_append.1 I.nodX).2.1,Sim.refl _⟩
 | some i=>
  obtain ⟨fs1,I1,hfs⟩:=I.drop (σ':=σ.unmir i) (by simp [State.unmir,Z0b]) (λj=>by rw [Z3B];exact Z7G _ _) (λj=> .inl rfl)
  have h2:Z01 (σ.unmir i) { G with fs:=fs1 } a w (TV.unmir i tv) v fp:=by
   have h3:Z01 (σ.unmir i) { G with fs:=fs1 } a w tv v fp:=Z01.move (λp _=> .inr ⟨rfl,rfl⟩) rfl rfl rfl h.unmired
   cases tv<;>first | exact h3 | skip
   simp only [TV.unmir]
   split
   ·exact h3.1
   ·exact h3
  obtain ⟨G2,I2,hs2⟩:=I1.put (i:=i) (tv:=TV.unmir i tv) (v:=v) h2 (hpin _ rfl) (.inl ⟨λτ p=>Z7F _ _ _ _,λj τ p=>by rw [Z3B];exact Z7F _ _ _ _⟩)
  exact ⟨G2,I2,(Sim.fs G fs1).trans hs2⟩
end
section
variable {w:World} {F:Nat->Nat} {St Al:Nat->Prop}
theorem Rp.flatLens:{path:List Step}->{τ:Ty}->{tg:List Tag}->{cs cs':List Value}->{x:El τ}->{fp:List Nat}->{base base':Option (Nat×Nat)}->{u:TVal} ->
  Z08 path=true->Rp w F St Al τ tg cs x fp->Z00 w τ cs base path=some (cs',base')->Z04 τ x tg path=some u ->
  ∃ f1 fi f2,fp=f1++fi++f2/\Rp w F St Al u.τ u.tg (cs'.take (size u.τ)) u.x fi/\base'=base.map (λy=>(y.1,y.2+Z0g τ path))/\cs'.take (size u.τ)=(cs.drop (Z0g τ path)).take (size u.τ) /\
   ∀ (v:TVal) (csv:List Value) (fv:List Nat) (x':El τ) (tg':List Tag),Z0K τ x tg path v=some (x',tg')->v.τ=u.τ->Rp w F St Al v.τ v.tg csv v.x fv ->
    Rp w F St Al τ tg' (Z0c cs (Z0g τ path) csv) x' (f1++fv++f2)
 | [],τ,tg,cs,cs',x,fp,base,base',u,hf,h,hl,hg=>by
  simp only [Z00,Option.some.injEq,Prod.mk.injEq] at hl
  obtain ⟨rfl,rfl⟩:=hl
  have hu:u=⟨τ,false,x,tg⟩:=by cases τ<;>(simp only [Z04,Option.some.injEq] at hg;exact hg.symm)
  subst hu
  have h0:Z0g τ []=0:=by cases τ<;>rfl
  have hsz:cs.take (size τ)=cs:=by rw [<-h.len.1];simp
  refine ⟨[],fp,[],by simp,by rw [hsz];exact h,?_,by rw [h0];simp,?_⟩
  ·rw [h0];cases base<;>simp
  ·intro v csv fv x' tg' hs hv hvr
   obtain ⟨vτ,vag,vx,vtg⟩:=v
   simp only at hv hvr
   subst hv
   have hs':vx=x'/\vtg=tg':=by
    cases vτ<;>(simp only [Z0K,dif_pos,Option.some.injEq,Prod.mk.injEq] at hs;first | exact hs | exact ⟨rfl,hs.2⟩)
   obtain ⟨rfl,rfl⟩:=hs'
   rw [h0,Z2Z (by rw [hvr.len.1,h.len.1])]
   simpa using hvr
 | .fst::p,.pair a b,tg,cs,cs',x,fp,base,base',u,hf,h,hl,hg=>by
  obtain ⟨t1,t2,c1,c2,f1,f2,rfl,rfl,rfl,h1,h2⟩:=h
  have i1:=h1.len
  have hl':Z00 w a c1 base p=some (cs',base'):=by
   simp only [Z00] at hl;rw [<-i1.1] at hl;simpa using hl
  have hg':Z04 a x.1 t1 p=some u:=by
   simp only [Z04] at hg;rw [<-i1.2] at hg;simpa using hg
  have hsz:=Z1w (path:=p) hf hg'
  obtain ⟨g1,gi,g2,e1,e2,e3,e4,e5⟩:=Rp.flatLens (path:=p) hf h1 hl' hg'
  refine ⟨g1,gi,g2++f2,by rw [e1];simp,e2,e3,?_,?_⟩
  ·rw [e4,show Z0g (a.pair b) (.fst::p)=Z0g a p from rfl]
   rw [List.drop_append_of_le_length (by omega),List.take_append_of_le_length (by simp;omega)]
  ·intro v csv fv x' tg' hs hv hvr
   simp only [Z0K] at hs
   rw [<-i1.2] at hs
   simp only [List.take_left',List.drop_left',Option.map_eq_some_iff] at hs
   obtain ⟨⟨xa,ta⟩,hs1,hs2⟩:=hs
   simp only [Prod.mk.injEq] at hs2
   obtain ⟨rfl,rfl⟩:=hs2
   have:=e5 v csv fv xa ta hs1 hv hvr
   rw [show Z0g (a.pair b) (.fst::p)=Z0g a p from rfl,Z3i (by rw [hvr.len.1,hv,i1.1];omega)]
   have:=Rp.pair_mk this h2
   simpa using this
 | .snd::p,.pair a b,tg,cs,cs',x,fp,base,base',u,hf,h,hl,hg=>by
  obtain ⟨t1,t2,c1,c2,f1,f2,rfl,rfl,rfl,h1,h2⟩:=h
  have i1:=h1.len
  have hl':Z00 w b c2 (base.map λx=>(x.1,x.2+size a)) p=some (cs',base'):=by
   simp only [Z00] at hl;rw [<-i1.1] at hl ⊢;simpa using hl
  have hg':Z04 b x.2 t2 p=some u:=by
   simp only [Z04] at hg;rw [<-i1.2] at hg;simpa using hg
  obtain ⟨g1,gi,g2,e1,e2,e3,e4,e5⟩:=Rp.flatLens (path:=p) hf h2 hl' hg'
  refine ⟨f1++g1,gi,g2,by rw [e1];simp,e2,?_,?_,?_⟩
  ·rw [e3]
   cases base with
   | none=>rfl
   | some z=>simp [Z0g,Nat.add_assoc]
  ·rw [e4,show Z0g (a.pair b) (.snd::p)=size a+Z0g b p from rfl,<-i1.1,List.drop_length_add_append]
  ·intro v csv fv x' tg' hs hv hvr
   simp only [Z0K] at hs
   rw [<-i1.2] at hs
   simp only [List.take_left',List.drop_left',Option.map_eq_some_iff] at hs
   obtain ⟨⟨xa,ta⟩,hs1,hs2⟩:=hs
   simp only [Prod.mk.injEq] at hs2
   obtain ⟨rfl,rfl⟩:=hs2
   have:=e5 v csv fv xa ta hs1 hv hvr
   rw [show Z0g (a.pair b) (.snd::p)=size a+Z0g b p from rfl,<-i1.1,Z2O]
   have:=Rp.pair_mk h1 this
   simpa using this
 | .idx _::_,_,_,_,_,_,_,_,_,_,hf,_,_,_=>by simp [Z08] at hf
 | .fst::_,.int _,_,_,_,_,_,_,_,_,_,_,hl,_=>by simp [Z00] at hl
 | .fst::_,.bool,_,_,_,_,_,_,_,_,_,_,hl,_=>by simp [Z00] at hl
 | .fst::_,.str,_,_,_,_,_,_,_,_,_,_,hl,_=>by simp [Z00] at hl
 | .fst::_,.unit,_,_,_,_,_,_,_,_,_,_,hl,_=>by simp [Z00] at hl
 | .fst::_,.slice _,_,_,_,_,_,_,_,_,_,_,hl,_=>by simp [Z00] at hl
 | .snd::_,.int _,_,_,_,_,_,_,_,_,_,_,hl,_=>by simp [Z00] at hl
 | .snd::_,.bool,_,_,_,_,_,_,_,_,_,_,hl,_=>by simp [Z00] at hl
 | .snd::_,.str,_,_,_,_,_,_,_,_,_,_,hl,_=>by simp [Z00] at hl
 | .snd::_,.unit,_,_,_,_,_,_,_,_,_,_,hl,_=>by simp [Z00] at hl
 | .snd::_,.slice _,_,_,_,_,_,_,_,_,_,_,hl,_=>by simp [Z00] at hl
end
end Go.PI
namespace Go.PI
section
variable {W0:Base} {M:Nat->Prop} {σ:State} {a:Act} {w:World} {G:Ghost} {xs:List Nat}
def Ghost.fpOf (G:Ghost) (p:Place):List Nat:=match p.box with | true=>G.fb p.root | false=>G.fs p.root
theorem Z0Q (w:World) (τ:Ty) (cs:List Value) (base:Option (Nat×Nat)):Z00 w τ cs base []=some (cs,base):=by cases τ<;>rfl
theorem Z39 {cs:List Value} {o n:Nat} (h:o+n<=cs.length):Z0c cs o ((cs.drop o).take n)=cs:=by
 unfold Z0c
 have:((cs.drop o).take n).length=n:=by simp;omega
 rw [this,List.append_assoc,<-List.drop_drop,List.take_append_drop,List.take_append_drop]
theorem Z0O {r:Nat} {path:List Step} {c c':TVal} (hc:σ.content ⟨false,r,path⟩=some c) (j:Nat) :
  (σ.setContent ⟨false,r,path⟩ c').slot j=if r=j/\r<σ.slots.length then (match σ.slot r with | .tup _ ags=> .tup c' ags | _=> .val c') else σ.slot j:=by
 simp only [State.content] at hc
 cases hsl:σ.slot r with
 | val v=>
  have:σ.setContent ⟨false,r,path⟩ c'={ σ with slots:=Z0I σ.slots r (.val c') }:=by simp only [State.setContent,hsl]
  rw [this]
  show Z0v TV.dead (Z0I σ.slots r (.val c')) j=_
  rw [Z0U];rfl
 | tup v ags=>
  have:σ.setContent ⟨false,r,path⟩ c'={ σ with slots:=Z0I σ.slots r (.tup c' ags) }:=by simp only [State.setContent,hsl]
  rw [this]
  show Z0v TV.dead (Z0I σ.slots r (.tup c' ags)) j=_
  rw [Z0U];rfl
 | _=>rw [hsl] at hc;cases hc
theorem Z2j (p:Place) (c':TVal):(σ.setContent p c').slots.length=σ.slots.length:=by
 obtain ⟨bx,r,path⟩:=p
 cases bx with
 | true=>rfl
 | false=>simp only [State.setContent];split<;>simp [Z0G]
theorem Inv.recontent (I:Inv W0 M σ a w G xs) {p:Place} {c c':TVal} (hc:σ.content p=some c) (hτ:c'.τ=c.τ) (hag:c'.ag=c.ag) {l:List Value} {b:Option (Nat×Nat)} {f' fi:List Nat}
  (hr:Z09 G a w p=some (l,b)) (hR:Rp w G.F G.St G.Al c'.τ c'.tg l c'.x f') (hfp:(G.fpOf p).Perm (f'++fi)) :
  ∃ G',Inv W0 M (σ.setContent p c') a w G' (fi++xs)/\Sim G G':=by
 classical
 obtain ⟨bx,r,path⟩:=p
 have hfi:∀ x∈fi,x∈G.fpOf ⟨bx,r,path⟩:=λx hx=>hfp.symm.subset (List.mem_append_right _ hx)
 have hf':∀ x∈f',x∈G.fpOf ⟨bx,r,path⟩:=λx hx=>hfp.symm.subset (List.mem_append_left _ hx)
 have hwf:∀ x∈G.fpOf ⟨bx,r,path⟩,G.who x=some (if bx then .c r else .s r):=by
  intro x hx
  cases bx
  ·exact I.whoS r x hx
  ·exact I.whoC r x hx
 have hnd:(f'++fi).Nodup:=by
  refine hfp.nodup_iff.1 ?_
  cases bx
  ·exact I.nodS r
  ·exact I.nodC r
 have hdis:∀ x∈fi,x ∉ f':=λx hx hx'=>(List.nodup_append.1 hnd).2.2 x hx' x hx rfl
 let G':Ghost:=⟨G.F,G.St,(λx=>if x∈fi then some .x else G.who x),(λj=>if bx=false/\j=r then f' else G.fs j),(λj=>if bx=true/\j=r then f' else G.fb j),G.ad⟩
 have hbx:∀ x k,G'.who x=some (.a k)↔G.who x=some (.a k):=by
  intro x k
  show (if x∈fi then some Who.x else G.who x)=some (.a k)↔_
  by_cases hx:x∈fi
  ·have:=hwf x (hfi x hx)
   rw [this];cases bx<;>simp [hx]
  ·simp [hx]
 have hA:G'.Al=G.Al:=by
  funext x
  apply propext
  show ((∀ k,(if x∈fi then some Who.x else G.who x)≠some (.a k))/\((if x∈fi then some Who.x else G.who x)=none->G.St x))↔_
  by_cases hx:x∈fi
  ·simp only [hx,if_true]
   have:=hwf x (hfi x hx)
   constructor
   ·intro _;exact ⟨λk=>(by rw [this];cases bx<;>simp),λh=>(by rw [this] at h;cases h)⟩
   ·intro _;exact ⟨λk=>(by simp),λh=>(by cases h)⟩
  ·simp only [hx,if_false];rfl
 have hct:∀ q,(σ.setContent ⟨bx,r,path⟩ c').ct q=σ.ct q/\Z09 G' a w q=Z09 G a w q:=by
  rintro ⟨bq,rq,pq⟩
  refine ⟨?_,by cases bq<;>rfl⟩
  cases bx with
  | true=>
   simp only [State.content] at hc
   cases bq with
   | true=>
    rw [Z1q,Z1q]
    simp only [State.setContent,State.boxAt] at *
    rw [Z0U]
    split
    ·rename_i h;obtain ⟨rfl,_⟩:=h
     rw [hc];simp [hτ]
    ·rfl
   | false=>rfl
  | false=>
   cases bq with
   | true=>
    simp only [State.setContent]
    split<;>rfl
   | false=>
    rw [Z1m,Z1m,Z0O hc]
    by_cases h3:r=rq/\r<σ.slots.length
    ·obtain ⟨rfl,h4⟩:=h3
     simp only [h4,and_self,if_true]
     simp only [State.content] at hc
     cases hsl:σ.slot r with
     | val v=>rw [hsl] at hc;cases hc;simp only [hτ]
     | tup v ags=>rw [hsl] at hc;cases hc;simp only [hτ]
     | _=>rw [hsl] at hc;cases hc
    ·simp only [h3,if_false]
 refine ⟨G',⟨I.defers,?_,λj hj=> ?_,λj u hu=> ?_,λj x hx=> ?_,λj x hx=> ?_,λx hx=> ?_,λj=> ?_,λj=> ?_,?_,λx hx=> ?_,λx z hx=> ?_,I.ext,λj hj=>I.adx j (by rw [Z2j] at hj;exact hj),⟨I.org.F,I.org.St,I.org.St'⟩,I.pin⟩,rfl,rfl,rfl,hA,hbx⟩
 ·rw [I.len,Z2j]
 ·have hj':j<σ.slots.length:=by rw [Z2j] at hj;exact hj
  by_cases hjr:bx=false/\j=r
  ·obtain ⟨rfl,rfl⟩:=hjr
   show Z01 _ G' a w _ _ (if false=false/\j=j then f' else G.fs j)
   simp only [and_self,if_true]
   have hs:=I.slot j hj'
   have key:=Z0O (c':=c') hc j
   simp only [State.content] at hc
   simp only [Z09,Option.some.injEq,Prod.mk.injEq] at hr
   obtain ⟨rfl,rfl⟩:=hr
   simp only [hj',and_self,if_true] at key
   rw [key]
   cases hsl:σ.slot j with
   | val v=>
    rw [hsl] at hs hc
    cases hc
    simp only []
    refine ⟨by rw [hag];exact hs.1,?_⟩
    rw [hA];exact hR
   | tup v ags=>
    rw [hsl] at hs hc
    cases hc
    simp only []
    refine ⟨by rw [hτ];exact hs.1,?_⟩
    rw [hA];exact hR
   | _=>rw [hsl] at hc;cases hc
  ·show Z01 _ G' a w _ _ (if bx=false/\j=r then f' else G.fs j)
   simp only [hjr,if_false]
   have key:(σ.setContent ⟨bx,r,path⟩ c').slot j=σ.slot j:=by
    cases bx with
    | true=>rfl
    | false=>
     have hjr':r≠j:=λh=>hjr ⟨rfl,h.symm⟩
     rw [Z0O hc];simp [hjr']
   rw [key]
   exact Z01.move (λq _=> .inr (hct q)) rfl rfl hA (I.slot j hj')
 ·have key:∀ j,(σ.setContent ⟨bx,r,path⟩ c').boxAt j=if bx=true/\r=j/\r<σ.boxes.length then some c' else σ.boxAt j:=by
   intro j
   cases bx with
   | true=>simp only [State.setContent,State.boxAt];rw [Z0U];simp
   | false=>simp only [State.setContent];split<;>simp [State.boxAt]
  rw [key] at hu
  split at hu
  ·rename_i h
   obtain ⟨rfl,rfl,_⟩:=h
   cases hu
   simp only [State.content] at hc
   obtain ⟨⟨cc,T,hcc,hrr⟩,hw⟩:=I.box r c hc
   simp only [Z09,hcc,Option.some.injEq,Prod.mk.injEq] at hr
   obtain ⟨rfl,rfl⟩:=hr
   refine ⟨⟨cc,T,hcc,?_⟩,?_⟩
   ·rw [hA]
    show Rp w G.F G.St G.Al _ _ _ _ (if true=true/\r=r then f' else G.fb r)
    simp only [and_self,if_true];exact hR
   ·show (if G.ad r∈fi then some Who.x else G.who (G.ad r))=_
    split
    ·rename_i hm
     have:=hwf _ (hfi _ hm)
     rw [hw] at this;simp at this
    ·exact hw
  ·obtain ⟨⟨cc,T,hcc,hrr⟩,hw⟩:=I.box j u hu
   refine ⟨⟨cc,T,hcc,?_⟩,?_⟩
   ·rw [hA]
    show Rp w G.F G.St G.Al _ _ _ _ (if bx=true/\j=r then f' else G.fb j)
    split
    ·rename_i h1 h2
     obtain ⟨rfl,rfl⟩:=h2
     exfalso
     refine h1 ⟨rfl,rfl,?_⟩
     rcases Nat.lt_or_ge j σ.boxes.length with h | h
     ·exact h
     ·unfold State.boxAt at hu;rw [Z2g _ _ h] at hu;cases hu
    ·exact hrr
   ·show (if G.ad j∈fi then some Who.x else G.who (G.ad j))=_
    split
    ·rename_i hm
     have:=hwf _ (hfi _ hm)
     rw [hw] at this;cases bx<;>simp at this
    ·exact hw
 ·change x∈(if bx=false/\j=r then f' else G.fs j) at hx
  show (if x∈fi then some Who.x else G.who x)=_
  split at hx
  ·rename_i h;obtain ⟨rfl,rfl⟩:=h
   rw [if_neg (λh=>hdis x h hx)]
   have:=hwf x (hf' x hx);simpa using this
  ·rename_i h
   have h1:=I.whoS j x hx
   rw [if_neg (λhm=> ?_)]
   ·exact h1
   ·have:=hwf x (hfi x hm)
    rw [h1] at this
    cases bx
    ·simp only [Bool.false_eq_true,if_false,Option.some.injEq,Who.s.injEq] at this
     exact h ⟨rfl,this⟩
    ·simp at this
 ·change x∈(if bx=true/\j=r then f' else G.fb j) at hx
  show (if x∈fi then some Who.x else G.who x)=_
  split at hx
  ·rename_i h;obtain ⟨rfl,rfl⟩:=h
   rw [if_neg (λh=>hdis x h hx)]
   have:=hwf x (hf' x hx);simpa using this
  ·rename_i h
   have h1:=I.whoC j x hx
   rw [if_neg (λhm=> ?_)]
   ·exact h1
   ·have:=hwf x (hfi x hm)
    rw [h1] at this
    cases bx
    ·simp at this
    ·simp only [if_true,Option.some.injEq,Who.c.injEq] at this
     exact h ⟨rfl,this⟩
 ·show (if x∈fi then some Who.x else G.who x)=_
  split
  ·rfl
  ·rename_i h
   exact I.whoX x ((List.mem_append.1 hx).resolve_left h)
 ·show (if bx=false/\j=r then f' else G.fs j).Nodup
  split
  ·exact (List.nodup_append.1 hnd).1
  ·exact I.nodS j
 ·show (if bx=true/\j=r then f' else G.fb j).Nodup
  split
  ·exact (List.nodup_append.1 hnd).1
  ·exact I.nodC j
 ·refine List.nodup_append.2 ⟨(List.nodup_append.1 hnd).2.1,I.nodX,λx hx y hy he=> ?_⟩
  subst he
  have h1:=hwf x (hfi x hx)
  rw [I.whoX x hy] at h1
  cases bx<;>simp at h1
 ·refine ⟨?_,(I.st x hx).2⟩
  show (if x∈fi then some Who.x else G.who x)=_
  split
  ·rename_i hm
   have:=hwf x (hfi x hm)
   rw [(I.st x hx).1] at this;cases this
  ·exact (I.st x hx).1
 ·change (if x∈fi then some Who.x else G.who x)=some z at hx
  split at hx
  ·rename_i hm
   exact I.lt x _ (hwf x (hfi x hm))
  ·exact I.lt x z hx
theorem Z0w (I:Inv W0 M σ a w G xs) (o:Operand) (h:∀ v ags,σ.peek o≠ .tup v ags):Z01 σ G a w (σ.peek o) (a.eval o) []:=by
 cases o with
 | tmp t=>
  by_cases ht:t<σ.slots.length
  ·have hs:=I.slot t ht
   simp only [State.peek] at h ⊢
   cases hsl:σ.slot t with
   | val v=>
    rw [hsl] at hs
    simp only []
    by_cases ho:v.anyOwn
    ·simp only [ho,if_true]
     refine ⟨rfl,.inr ⟨Z02 (a.tmps.getD t undef),none,⟨v.τ,Z02 (a.tmps.getD t undef),none,?_,rfl,Z0Q _ _ _ _⟩,rfl,hs.1⟩⟩
     rw [Z1m,hsl]
    ·simp only [ho,if_false]
     have:G.fs t=[]:=hs.2.fp_nil λt ht=>by
      unfold TVal.anyOwn at ho
      cases hx:t.own with
      | false=>rfl
      | true=>exact absurd (List.any_eq_true.2 ⟨t,ht,hx⟩) ho
     rw [this] at hs
     exact hs
   | tup v ags=>rw [hsl] at h;exact absurd rfl (h v ags)
   | dead=>simp only [Z01]
   | un=>rw [hsl] at hs;exact ⟨hs.1,rfl⟩
   | nil=>rw [hsl] at hs;exact ⟨hs.1,rfl⟩
   | ref p ag=>rw [hsl] at hs;exact ⟨rfl,hs.2⟩
   | ptr p=>rw [hsl] at hs;exact ⟨rfl,hs.2⟩
   | eptr u t=>rw [hsl] at hs;exact ⟨rfl,hs.2⟩
   | eref p=>rw [hsl] at hs;exact ⟨rfl,hs.2⟩
   | tref t' ags=>rw [hsl] at hs;exact ⟨rfl,hs.2⟩
   | sptr r τr p=>rw [hsl] at hs;exact ⟨rfl,hs.2⟩
   | clos f ps=>rw [hsl] at hs;exact ⟨rfl,hs.2⟩
   | sclos f τs u=>rw [hsl] at hs;exact ⟨rfl,hs.2⟩
  ·have:σ.slot t= .dead:=Z2g _ _ (Nat.le_of_not_lt ht)
   simp only [State.peek,this,Z01]
 | const v=>
  cases v with
  | int k n=>exact ⟨rfl,rfl,rfl,rfl⟩
  | bool b=>exact ⟨rfl,rfl,rfl,rfl⟩
  | string s=>exact ⟨rfl,rfl,rfl,rfl⟩
  | slice ad len cap=>
   cases ad with
   | none=>
    cases len with
    | zero=>cases cap with
     | zero=>exact ⟨rfl,rfl⟩
     | succ n=>simp [State.peek,Z01]
    | succ n=>simp [State.peek,Z01]
   | some x=>simp [State.peek,Z01]
  | _=>simp [State.peek,Z01]
 | func f=>exact ⟨rfl,#[],rfl,rfl,λi hi=>by simp at hi⟩
 | _=>simp [State.peek,Z01]
theorem Z0D {p:Place} {u:TVal} (h:σ.getAt p=some u):∃ c,σ.content p=some c/\Z04 c.τ c.x c.tg p.path=some u:=by
 unfold State.getAt at h
 obtain ⟨c,h1,h2⟩:=Option.bind_eq_some_iff.1 h
 exact ⟨c,h1,h2⟩
theorem Z2v (I:Inv W0 M σ a w G xs) {p:Place} {u:TVal} {cs:List Value} {base:Option (Nat×Nat)} (h:σ.getAt p=some u) (hp:Z0C σ G a w p cs base) :
  ∃ fp,Rp w G.F G.St G.Al u.τ u.tg cs u.x fp:=by
 obtain ⟨c,hc,hg⟩:=Z0D h
 obtain ⟨τ,l,b,hct,hr,hl⟩:=hp
 obtain ⟨l',b',fp,hr',hrp,hw⟩:=Z0H I hc
 rw [hr] at hr'
 cases hr'
 have:τ=c.τ:=by rw [State.ct,hc] at hct;simpa using hct.symm
 subst this
 obtain ⟨fp',h1,_⟩:=hrp.get hl hg
 exact ⟨fp',h1⟩
theorem TVal.alias_tg (u:TVal):u.alias.tg=u.tg.map Tag.alias:=rfl
theorem Z1r (I:Inv W0 M σ a w G xs) {o:Operand} {v:TVal} (h:σ.look o=some v) :
  Rp w G.F G.St G.Al v.τ v.tg (Z02 (a.eval o)) v.x []/\Z0f v.ag (a.eval o):=by
 unfold State.look at h
 have hp:=Z0w I o
 split at h
 ·rename_i u hu
  cases h
  rw [hu] at hp
  have:=hp (by simp)
  exact ⟨this.2,this.1⟩
 ·rename_i p ag hu
  rw [hu] at hp
  obtain ⟨_,hr⟩:=hp (by simp)
  obtain ⟨u,hg,rfl⟩:=Option.map_eq_some_iff.1 h
  rcases hr with hr | ⟨cs,base,hpl,hcs,hsh⟩
  ·obtain ⟨c,hc,_⟩:=Z0D hg
   rw [State.ct,hc] at hr;cases hr
  ·obtain ⟨fp,hrp⟩:=Z2v I hg hpl
   rw [hcs]
   exact ⟨hrp.alias (Ghost.St_Al I),hsh⟩
 ·cases h
theorem Z10 (I:Inv W0 M σ a w G xs) {o:Operand} {τ:Ty} {v:TVal} {σ':State} (h:σ.take o τ=some (v,σ')) :
  ∃ fp G',Inv W0 M σ' a w G' (fp++xs)/\Sim G G'/\v.τ=τ /\
   Rp w G'.F G'.St G'.Al v.τ v.tg (Z02 (a.eval o)) v.x fp/\Z0f v.ag (a.eval o):=by
 unfold State.take at h
 have hp:=Z0w I o
 split at h
 ·rename_i hu
  rw [hu] at hp
  obtain ⟨hv,_⟩:=hp (by simp)
  split at h
  ·cases h
   refine ⟨[],G,I,Sim.refl _,rfl,?_,?_⟩
   ·rw [hv]
    exact ⟨.O,none,0,rfl,rfl,Nat.le_refl _,.inl ⟨rfl,rfl,rfl,rfl,rfl⟩⟩
   ·rw [hv];rfl
  ·cases h
 ·rename_i u hu
  rw [hu] at hp
  have:=hp (by simp)
  split at h
  ·cases h
   rename_i hτ
   exact ⟨[],G,I,Sim.refl _,hτ,this.2,this.1⟩
  ·cases h
 ·rename_i p ag hu
  rw [hu] at hp
  obtain ⟨_,hr⟩:=hp (by simp)
  split at h
  ·rename_i u hg
   split at h
   ·rename_i hτ
    rcases hr with hr | ⟨cs,base,hpl,hcs,hsh⟩
    ·obtain ⟨c,hc,_⟩:=Z0D hg
     rw [State.ct,hc] at hr;cases hr
    split at h
    ·rename_i hcond
     simp only [Bool.and_eq_true] at hcond
     obtain ⟨σ2,hset,he⟩:=Option.map_eq_some_iff.1 h
     cases he
     obtain ⟨c,hc,hgp⟩:=Z0D hg
     unfold State.setAt at hset
     rw [hc] at hset
     simp only [Option.bind_some,Option.map_eq_some_iff] at hset
     obtain ⟨⟨x',tg'⟩,hsp,rfl⟩:=hset
     obtain ⟨τc,l,b,hct,hrl,hl⟩:=hpl
     obtain ⟨l',b',fpc,hr',hrp,hw⟩:=Z0H I hc
     rw [hrl] at hr'
     cases hr'
     have:τc=c.τ:=by rw [State.ct,hc] at hct;simpa using hct.symm
     subst this
     obtain ⟨f1,fi,f2,e1,e2,e3,e4,e5⟩:=Rp.flatLens hcond.2 hrp hl hgp
     obtain ⟨fg,hrg,_⟩:=hrp.get hl hgp
     have hlen:cs.take (size u.τ)=cs:=by rw [<-hrg.len.1];simp
     have hnew:=e5 u.alias (cs.take (size u.τ)) [] x' tg' hsp rfl (by rw [hlen];exact hrg.alias (Ghost.St_Al I))
     have hsz:=Z1w hcond.2 hgp
     rw [e4,Z39 (by rw [hrp.len.1];exact hsz)] at hnew
     have hfp:G.fpOf p=f1++fi++f2:=by
      rw [<-e1]
      rcases hw with ⟨hb,_,rfl,_⟩ | ⟨hb,_,rfl,_⟩<;>simp [Ghost.fpOf,hb]
     obtain ⟨G',I',hsim⟩:=I.recontent (c':=⟨c.τ,c.ag,x',tg'⟩) hc rfl rfl hrl hnew (fi:=fi) (by
      rw [hfp]
      simp only [List.append_nil]
      rw [List.append_assoc,List.append_assoc]
      exact List.Perm.append_left _ List.perm_append_comm)
     refine ⟨fi,G',I',hsim,hτ,?_,hsh⟩
     rw [hsim.F,hsim.St,hsim.Al,hcs]
     rw [hlen] at e2
     exact e2
    ·cases h
     obtain ⟨fp,hrp⟩:=Z2v I hg hpl
     refine ⟨[],G,I,Sim.refl _,hτ,?_,hsh⟩
     rw [hcs]
     exact hrp.alias (Ghost.St_Al I)
   ·cases h
  ·cases h
 ·cases h
end
end Go.PI
namespace Go.PI
def zeroCells:Ty->List Value
 | .int k=>[.int k 0]
 | .bool=>[.bool false]
 | .str=>[.string ⟨#[]⟩]
 | .unit=>[]
 | .slice _=>[.slice none 0 0]
 | .pair a b=>zeroCells a++zeroCells b
structure FieldF (P:Program) (tys:List (TypeId×Ty×List TypeId)) (τ:Ty) (l:List TypeId) (fs:Array Field) (i:Nat):Prop where
 out : ∃ f τf lf, fs[i]? = some f ∧ f.type = l.getD i 0 ∧ f.offset = Z0g τ (Z0a l.length i) ∧ Z0d τ (Z0a l.length i) = some τf ∧ Z0o tys f.type = some (τf, lf) ∧ size τf ≠ 0 ∧ f.name ≠ "_"
def Z7q:Ty->Bool
 | .int _=>true
 | .bool=>true
 | .str=>true
 | _=>false
structure TyF (P:Program) (tys:List (TypeId×Ty×List TypeId)) (t:TypeId) (τ:Ty) (l:List TypeId):Prop where
 info:∃ i z,P.info? t=some i/\i.size=size τ/\i.bytes<=65536/\i.bytes≠0/\i.zero=some z/\z.cells.toList=zeroCells τ/\Z0f (!l.isEmpty) z
 und:l=[]->((∀ k,τ= .int k->P.underlying t=some (.int k))/\(τ= .bool->P.underlying t=some .bool)/\(τ= .str->P.underlying t=some .string) /\
  (∀ e,τ= .slice e->∃ et,P.underlying t=some (.slice et)/\Z0z tys et=some e/\(Z7q e=true->Z0p tys et=false))/\(τ≠ .unit)/\(∀ a b,τ≠ .pair a b))
 str:l≠[]->∃ fs,P.underlying t=some (.struct fs)/\fs.size=l.length/\(∀ i,i<l.length->FieldF P tys τ l fs i)/\P.stoodInHeld t=false
def Z0e (P:Program) (tys:List (TypeId×Ty×List TypeId)):Prop:=∀ t τ l,Z0o tys t=some (τ,l)->TyF P tys t τ l
def Z3a:Ty->List Value->Bool
 | .int k,cs=>match cs with | [.int k' n]=>decide (k=k')&&decide (n=0) | _=>false
 | .bool,cs=>match cs with | [.bool b]=> !b | _=>false
 | .str,cs=>match cs with | [.string s]=>decide (s.size=0) | _=>false
 | .unit,cs=>cs.isEmpty
 | .slice _,cs=>match cs with | [.slice none 0 0]=>true | _=>false
 | .pair a b,cs=>Z3a a (cs.take (size a))&&Z3a b (cs.drop (size a))
theorem Z5N:{τ:Ty}->{cs:List Value}->Z3a τ cs=true->cs=zeroCells τ
 | .int k,cs,h=>by
  simp only [Z3a] at h
  split at h
  ·simp only [Bool.and_eq_true,decide_eq_true_eq] at h
   obtain ⟨rfl,rfl⟩:=h;rfl
  ·cases h
 | .bool,cs,h=>by
  simp only [Z3a] at h
  split at h
  ·rename_i b;cases b
   ·rfl
   ·cases h
  ·cases h
 | .str,cs,h=>by
  simp only [Z3a] at h
  split at h
  ·rename_i s
   simp only [decide_eq_true_eq] at h
   obtain ⟨⟨l⟩⟩:=s
   have:l=[]:=List.length_eq_zero_iff.1 h
   subst this;rfl
  ·cases h
 | .unit,cs,h=>by simp only [Z3a,List.isEmpty_iff] at h;exact h
 | .slice _,cs,h=>by
  simp only [Z3a] at h
  split at h
  ·rfl
  ·cases h
 | .pair a b,cs,h=>by
  simp only [Z3a,Bool.and_eq_true] at h
  have h1:=Z5N h.1
  have h2:=Z5N h.2
  rw [zeroCells,<-h1,<-h2,List.take_append_drop]
def ZaU:Value->Bool:=one
def Z9E:Value->Bool | .agg _=>true | _=>false
noncomputable def Z8K (P:Program) (tys:List (TypeId×Ty×List TypeId)) (τ:Ty) (l:List TypeId) (fs:Array Field) (i:Nat):Bool:=
 match fs[i]?,Z0d τ (Z0a l.length i) with
 | some f, some τf => decide (f.type = l.getD i 0) && decide (f.offset = Z0g τ (Z0a l.length i)) && decide (Z0z tys f.type = some τf) && decide (size τf ≠ 0) && decide (f.name ≠ "_")
 | _,_=>false
noncomputable def tyB (P:Program) (tys:List (TypeId×Ty×List TypeId)) (t:TypeId) (τ:Ty) (l:List TypeId):Bool:=
 (match P.info? t with
  | some i=>decide (i.size=size τ)&&decide (i.bytes<=65536)&&decide (i.bytes≠0)&&(match i.zero with | some z=>Z3a τ z.cells.toList&&(if l.isEmpty then one z else Z9E z) | none=>false)
  | none=>false) &&
 (match l with
  | []=>(match τ,P.underlying t with
   | .int k,some (.int k')=>decide (k=k')
   | .bool,some .bool=>true
   | .str,some .string=>true
   | .slice e,some (.slice et)=>decide (Z0z tys et=some e)&&(!Z7q e|| !Z0p tys et)
   | _,_=>false)
  | _=>(match P.underlying t with
   | some (.struct fs)=>decide (fs.size=l.length)&&(List.range l.length).all (Z8K P tys τ l fs)&& !P.stoodInHeld t
   | _=>false))
noncomputable def Zan (P:Program) (tys:List (TypeId×Ty×List TypeId)):Bool:=tys.all λx=>tyB P tys x.1 x.2.1 x.2.2
theorem Z6A {α:Type}:{l:List (Nat×α)}->{n:Nat}->{a:α}->Z0o l n=some a->(n,a)∈l
 | (m,b)::l,n,a,h=>by
  simp only [Z0o] at h
  split at h
  ·rename_i he;simp at he;subst he;cases h;simp
  ·exact List.mem_cons_of_mem _ (Z6A h)
theorem ZaE {P:Program} {tys:List (TypeId×Ty×List TypeId)} (h:Zan P tys=true):Z0e P tys:=by
 intro t τ l ha
 have hm:=Z6A ha
 have hb:=List.all_eq_true.1 h _ hm
 simp only [tyB,Bool.and_eq_true] at hb
 obtain ⟨h1,h2⟩:=hb
 refine ⟨?_,?_,?_⟩
 ·split at h1
  ·rename_i i hi
   simp only [Bool.and_eq_true,decide_eq_true_eq] at h1
   obtain ⟨⟨⟨h3,h4⟩,h4'⟩,h5⟩:=h1
   split at h5
   ·rename_i z hz
    simp only [Bool.and_eq_true] at h5
    refine ⟨i,z,hi,h3,h4,h4',hz,Z5N h5.1,?_⟩
    cases hl:l.isEmpty with
    | true=>rw [hl] at h5;simp only [if_true] at h5;exact h5.2
    | false=>
     rw [hl] at h5
     simp only [Bool.false_eq_true,if_false] at h5
     cases z<;>simp_all [Z9E,Z0f]
   ·cases h5
  ·cases h1
 ·rintro rfl
  simp only [] at h2
  split at h2
  ·rename_i k k' hu
   simp only [decide_eq_true_eq] at h2;subst h2
   exact ⟨λk h=>by cases h;exact hu,by simp,by simp,by simp,by simp,by simp⟩
  ·rename_i hu
   exact ⟨by simp,λ_=>hu,by simp,by simp,by simp,by simp⟩
  ·rename_i hu
   exact ⟨by simp,by simp,λ_=>hu,by simp,by simp,by simp⟩
  ·rename_i e et hu
   simp only [Bool.and_eq_true,decide_eq_true_eq,Bool.or_eq_true,Bool.not_eq_true'] at h2
   refine ⟨by simp,by simp,by simp,λe' h=> ?_,by simp,by simp⟩
   cases h
   exact ⟨et,hu,h2.1,λhp=>h2.2.resolve_left (by rw [hp];simp)⟩
  ·cases h2
 ·intro hl
  cases l with
  | nil=>exact absurd rfl hl
  | cons a l=>
   simp only [] at h2
   split at h2
   ·rename_i fs hu
    simp only [Bool.and_eq_true,decide_eq_true_eq,List.all_eq_true,List.mem_range,Bool.not_eq_true'] at h2
    refine ⟨fs,hu,h2.1.1,λi hi=> ?_,h2.2⟩
    have:=h2.1.2 i hi
    unfold Z8K at this
    split at this
    ·rename_i f τf hf hτ
     simp only [Bool.and_eq_true,decide_eq_true_eq] at this
     obtain ⟨⟨⟨⟨h6,h7⟩,h8⟩,h9⟩,h10⟩:=this
     unfold Z0z at h8
     cases ha2:Z0o tys f.type with
     | none=>rw [ha2] at h8;cases h8
     | some x=>
      rw [ha2] at h8
      simp only [Option.map_some,Option.some.injEq] at h8
      exact ⟨⟨f,τf,x.2,hf,h6,h7,hτ,by rw [<-h8];exact ha2,h9,h10⟩⟩
    ·cases this
   ·cases h2
theorem Z30 {w:World} {F:Nat->Nat} {St Al:Nat->Prop}:(τ:Ty)->Rp w F St Al τ (List.replicate (Z06 τ) .O) (zeroCells τ) (zero τ) []
 | .int _=>⟨rfl,rfl,rfl⟩
 | .bool=>⟨rfl,rfl,rfl⟩
 | .str=>⟨rfl,rfl,rfl⟩
 | .unit=>⟨rfl,rfl,rfl⟩
 | .slice e=>⟨.O,none,0,rfl,rfl,Nat.le_refl _,.inl ⟨rfl,rfl,rfl,rfl,rfl⟩⟩
 | .pair a b=>by
  have:=Rp.pair_mk (Z30 (w:=w) (F:=F) (St:=St) (Al:=Al) a) (Z30 b)
  rw [List.replicate_append_replicate] at this
  exact this
end Go.PI
namespace Go.PI
theorem Z0r {v:Value} (h:one v=true):Z02 v=[v]:=by cases v<;>simp_all [one,Z02,Value.cells]
section
variable {w:World} {F:Nat->Nat} {St Al:Nat->Prop} {v:Value} {tg:List Tag} {fp:List Nat}
theorem Z9A {k:IntKind} {x:Int} (hs:Z0f false v) (h:Rp w F St Al (.int k) tg (Z02 v) x fp):v= .int k x:=by
 have:=h.1;rw [Z0r hs] at this;simpa using this
theorem Z5M {x:Bool} (hs:Z0f false v) (h:Rp w F St Al .bool tg (Z02 v) x fp):v= .bool x:=by
 have:=h.1;rw [Z0r hs] at this;simpa using this
theorem Z9B {x:ByteArray} (hs:Z0f false v) (h:Rp w F St Al .str tg (Z02 v) x fp):v= .string x:=by
 have:=h.1;rw [Z0r hs] at this;simpa using this
theorem Z2C {e:Ty} {x:List (El e)} (hs:Z0f false v) (h:Rp w F St Al (.slice e) tg (Z02 v) x fp):∃ a cap,v= .slice a x.length cap/\x.length<=cap:=by
 obtain ⟨t,a,cap,_,hc,hl,_⟩:=h;rw [Z0r hs] at hc;exact ⟨a,cap,by simpa using hc,hl⟩
end
theorem Z22 {w:World} {b o n:Nat} {cs:List Value} (h:Z05 w b o n=some cs) (j:Nat) (v:Value) (hj:cs[j]? = some v):w.cell? ((⟨b,o,none⟩:Addr).add j)=some v:=by
 have hadd:(⟨b,o,none⟩:Addr).add j=⟨b,o+j,none⟩:=by unfold Addr.add;split<;>simp_all
 rw [hadd]
 unfold Z05 at h
 split at h
 ·rename_i c T fr hb
  split at h
  ·cases h
   simp only [World.cell?,hb]
   simp only [List.getElem?_take,List.getElem?_drop] at hj
   split at hj
   ·simpa using hj
   ·cases hj
  ·cases h
 ·cases h
theorem Z1H (τ:Ty):Z0d τ []=some τ:=by cases τ<;>rfl
theorem Z4E (τ:Ty):Z0g τ []=0:=by cases τ<;>rfl
theorem Z0V {w:World}:{q:List Step}->{τ τf:Ty}->{cs:List Value}->{base:Option (Nat×Nat)}->Z0d τ q=some τf->cs.length=size τ ->
  Z00 w τ cs base q=some ((cs.drop (Z0g τ q)).take (size τf),base.map λx=>(x.1,x.2+Z0g τ q))/\Z0g τ q+size τf<=size τ
 | [],τ,τf,cs,base,h,hl=>by
  rw [Z1H] at h;cases h
  rw [Z0Q,Z4E]
  refine ⟨?_,by omega⟩
  rw [List.drop_zero,<-hl,List.take_length]
  cases base<;>simp
 | .fst::p,.pair a b,τf,cs,base,h,hl=>by
  simp only [Z0d] at h
  simp only [size] at hl
  obtain ⟨h1,h2⟩:=Z0V (w:=w) (cs:=cs.take (size a)) (base:=base) h (by simp;omega)
  simp only [Z00,Z0g,size]
  refine ⟨?_,by omega⟩
  rw [h1,List.drop_take,List.take_take]
  congr 2
  congr 1
  omega
 | .snd::p,.pair a b,τf,cs,base,h,hl=>by
  simp only [Z0d] at h
  simp only [size] at hl
  obtain ⟨h1,h2⟩:=Z0V (w:=w) (cs:=cs.drop (size a)) (base:=base.map λx=>(x.1,x.2+size a)) h (by simp;omega)
  simp only [Z00,Z0g,size]
  refine ⟨?_,by omega⟩
  rw [h1,List.drop_drop]
  cases base with
  | none=>rfl
  | some z=>simp [Nat.add_assoc]
 | .idx _::_,.int _,_,_,_,h,_=>by simp [Z0d] at h
 | .idx _::_,.bool,_,_,_,h,_=>by simp [Z0d] at h
 | .idx _::_,.str,_,_,_,h,_=>by simp [Z0d] at h
 | .idx _::_,.unit,_,_,_,h,_=>by simp [Z0d] at h
 | .idx _::_,.slice _,_,_,_,h,_=>by simp [Z0d] at h
 | .idx _::_,.pair _ _,_,_,_,h,_=>by simp [Z0d] at h
 | .fst::_,.int _,_,_,_,h,_=>by simp [Z0d] at h
 | .fst::_,.bool,_,_,_,h,_=>by simp [Z0d] at h
 | .fst::_,.str,_,_,_,h,_=>by simp [Z0d] at h
 | .fst::_,.unit,_,_,_,h,_=>by simp [Z0d] at h
 | .fst::_,.slice _,_,_,_,h,_=>by simp [Z0d] at h
 | .snd::_,.int _,_,_,_,h,_=>by simp [Z0d] at h
 | .snd::_,.bool,_,_,_,h,_=>by simp [Z0d] at h
 | .snd::_,.str,_,_,_,h,_=>by simp [Z0d] at h
 | .snd::_,.unit,_,_,_,h,_=>by simp [Z0d] at h
 | .snd::_,.slice _,_,_,_,h,_=>by simp [Z0d] at h
def Z0L (ag:Bool) (cs:List Value):Value:=if ag then .agg cs.toArray else cs.headD undef
theorem Z1Z {P:Program} {tys:List (TypeId×Ty×List TypeId)} (hT:Z0e P tys) {t:TypeId} {τ:Ty} {l:List TypeId} (ht:Z0o tys t=some (τ,l)) {w:World} {b o:Nat} {cs:List Value}
  (h:Z05 w b o (size τ)=some cs):(loadVar t ⟨b,o,none⟩).run P w= .ok (Z0L (!l.isEmpty) cs) w:=by
 obtain ⟨⟨i,z,hi,hs,_,_,hz,hzc,_⟩,hu,hst⟩:=hT t τ l ht
 have hlen:=Z1E h
 cases l with
 | cons a l=>
  obtain ⟨fs,hf,_,_⟩:=hst (by simp)
  have:=run_loadCells_list (P:=P) w ⟨b,o,none⟩ cs (Z22 h)
  rw [hlen,<-hs] at this
  simp [loadVar,isAgg,run_underlying hf,sizeOf,typeInfo,hi,this,Z0L]
 | nil=>
  have hs1:∃ d,P.underlying t=some d/\(∀ fs,d≠ .struct fs)/\(∀ n e,d≠ .array n e)/\size τ=1:=by
   obtain ⟨h1,h2,h3,h4,h5,h6⟩:=hu rfl
   cases τ with
   | int k=>exact ⟨_,h1 k rfl,by simp,by simp,rfl⟩
   | bool=>exact ⟨_,h2 rfl,by simp,by simp,rfl⟩
   | str=>exact ⟨_,h3 rfl,by simp,by simp,rfl⟩
   | unit=>exact absurd rfl h5
   | slice e=>obtain ⟨et,h7,_,_⟩:=h4 e rfl;exact ⟨_,h7,by simp,by simp,rfl⟩
   | pair a b=>exact absurd rfl (h6 a b)
  obtain ⟨d,hd,hn1,hn2,hsz⟩:=hs1
  have h1:∃ c,cs=[c]:=by
   rw [hsz] at hlen
   match cs,hlen with
   | [c],_=>exact ⟨c,rfl⟩
  obtain ⟨c,rfl⟩:=h1
  have hc:=Z22 h 0 c rfl
  have hagg:(isAgg t).run P w= .ok false w:=by
   simp only [isAgg,Sem.run_bind,run_underlying hd,Result.andThen_ok]
   cases d<;>first | rfl | (exact absurd rfl (hn1 _)) | (exact absurd rfl (hn2 _ _))
  simp only [loadVar,Sem.run_bind,hagg,Result.andThen_ok,Bool.false_eq_true,if_false]
  rw [run_load]
  have:(⟨b,o,none⟩:Addr).add 0=⟨b,o,none⟩:=by simp [Addr.add]
  rw [this] at hc
  rw [hc]
  rfl
end Go.PI
namespace Go.PI
def Z4p (w:World) (G:Ghost) (w2:World):Prop:=∀ i b,G.who b=some (.a i)->w2.heap[b]? = w.heap[b]?
def Z6i (w:World) (G:Ghost) (w2:World):Prop:=
 (∀ b,b<w.heap.size->G.Al b->∀ o n cs,o+n<=G.F b->Z05 w b o n=some cs->Z05 w2 b o n=some cs)/\∀ i b,G.who b=some (.a i)->w2.heap[b]? = w.heap[b]?
theorem Rp.ones {w:World} {F:Nat->Nat} {St Al:Nat->Prop}:{τ:Ty}->{tg:List Tag}->{cs:List Value}->{x:El τ}->{fp:List Nat}->Rp w F St Al τ tg cs x fp->∀ c∈cs,one c=true
 | .int _,_,_,_,_,h=>by obtain ⟨rfl,_⟩:=h;simp [one]
 | .bool,_,_,_,_,h=>by obtain ⟨rfl,_⟩:=h;simp [one]
 | .str,_,_,_,_,h=>by obtain ⟨rfl,_⟩:=h;simp [one]
 | .unit,_,_,_,_,h=>by obtain ⟨rfl,_⟩:=h;simp
 | .slice _,_,_,_,_,h=>by obtain ⟨t,a,cap,rfl,rfl,_⟩:=h;simp [one]
 | .pair a b,_,_,_,_,h=>by
  obtain ⟨t1,t2,c1,c2,f1,f2,rfl,rfl,rfl,h1,h2⟩:=h
  intro c hc
  rcases List.mem_append.1 hc with hc | hc
  ·exact Rp.ones h1 c hc
  ·exact Rp.ones h2 c hc
theorem Z1i {ag:Bool} {cs:List Value} (h1:∀ c∈cs,one c=true) (h2:ag=false->cs.length=1):Z02 (Z0L ag cs)=cs/\Z0f ag (Z0L ag cs):=by
 cases ag with
 | true=>exact ⟨by simp [Z0L,Z02,Value.cells],⟨_,rfl⟩⟩
 | false=>
  match cs,h2 rfl with
  | [c],_=>
   have:=h1 c (by simp)
   exact ⟨Z0r this,this⟩
theorem Z32 {w:World} {b o n:Nat} {cs:List Value} (h:Z05 w b o n=some cs) {i m:Nat} (hm:i+m<=n):Z05 w b (o+i) m=some ((cs.drop i).take m):=by
 unfold Z05 at *
 split at h
 ·rename_i c T fr hb
  split at h
  ·cases h
   rw [if_pos (by omega)]
   congr 1
   rw [List.drop_take,List.drop_drop,List.take_take]
   congr 1
   omega
  ·cases h
 ·cases h
section
variable {W0:Base} {M:Nat->Prop} {σ:State} {a:Act} {w:World} {G:Ghost} {xs:List Nat}
theorem Z3w {F:Nat->Nat} {St Al:Nat->Prop} (hSA:∀ b,St b->Al b) :
  {path:List Step}->{τ:Ty}->{tg:List Tag}->{cs cs':List Value}->{x:El τ}->{fp:List Nat}->{base:Option (Nat×Nat)}->{b' o':Nat} ->
  Rp w F St Al τ tg cs x fp->(∀ b o,base=some (b,o)->Z05 w b o cs.length=some cs)->Z00 w τ cs base path=some (cs',some (b',o')) ->
  Z05 w b' o' cs'.length=some cs'/\((∃ o,base=some (b',o)/\o<=o'/\o'+cs'.length<=o+cs.length)\/(Al b'/\o'+cs'.length<=F b'))
 | [],τ,tg,cs,cs',x,fp,base,b',o',h,hb,hl=>by
  rw [Z0Q] at hl
  simp only [Option.some.injEq,Prod.mk.injEq] at hl
  obtain ⟨rfl,hbs⟩:=hl
  exact ⟨hb _ _ hbs,.inl ⟨o',hbs,Nat.le_refl _,Nat.le_refl _⟩⟩
 | .fst::p,.pair a b,tg,cs,cs',x,fp,base,b',o',h,hb,hl=>by
  have hlen:=h.len.1
  obtain ⟨f1,f2,rfl,h1,h2⟩:=h.pair_parts
  simp only [size] at hlen
  obtain ⟨h3,h4⟩:=Z3w hSA (path:=p) h1 (λb o hbs=>by
   have:=Z32 (hb b o hbs) (i:=0) (m:=(cs.take (size a)).length) (by simp;omega)
   simp only [Nat.add_zero,List.drop_zero] at this
   rw [this];simp) hl
  refine ⟨h3,h4.imp (λ⟨o,h5,h6,h7⟩=>⟨o,h5,h6,?_⟩) id⟩
  simp at h7;omega
 | .snd::p,.pair a b,tg,cs,cs',x,fp,base,b',o',h,hb,hl=>by
  have hlen:=h.len.1
  obtain ⟨f1,f2,rfl,h1,h2⟩:=h.pair_parts
  simp only [size] at hlen
  obtain ⟨h3,h4⟩:=Z3w hSA (path:=p) h2 (λb o hbs=>by
   cases hbs2:base with
   | none=>rw [hbs2] at hbs;cases hbs
   | some z=>
    rw [hbs2] at hbs
    simp only [Option.map_some,Option.some.injEq,Prod.mk.injEq] at hbs
    obtain ⟨rfl,rfl⟩:=hbs
    have:=Z32 (hb z.1 z.2 hbs2) (i:=size a) (m:=(cs.drop (size a)).length) (by simp;omega)
    rw [this,List.take_length]) hl
  refine ⟨h3,h4.imp (λ⟨o,h5,h6,h7⟩=> ?_) id⟩
  cases hbs2:base with
  | none=>rw [hbs2] at h5;cases h5
  | some z=>
   rw [hbs2] at h5
   simp only [Option.map_some,Option.some.injEq,Prod.mk.injEq] at h5
   obtain ⟨rfl,rfl⟩:=h5
   refine ⟨z.2,rfl,by omega,?_⟩
   simp at h7;omega
 | .idx i::p,.slice e,tg,cs,cs',x,fp,base,b',o',h,hb,hl=>by
  obtain ⟨t,ad,cap,rfl,rfl,hlc,h⟩:=h
  simp only [Z00] at hl
  split at hl
  ·rename_i b o len cap' heq
   simp only [List.cons.injEq,Value.slice.injEq,and_true] at heq
   obtain ⟨rfl,rfl,rfl⟩:=heq
   split at hl
   ·rename_i hi
    split at hl
    ·rename_i cse hce
     have hcl:=Z1E hce
     have hbd:o+i * size e+size e<=o+List.length (α:=El e) x * size e:=by
      have:(i+1) * size e<=List.length (α:=El e) x * size e:=Nat.mul_le_mul_right _ hi
      rw [Nat.add_mul,Nat.one_mul] at this
      omega
     have key:∀ {tg' f'} (_:Rp w F St Al e tg' cse (List.get (α:=El e) x ⟨i,hi⟩) f') (_:Al b) (_:o+List.length (α:=El e) x * size e<=F b),
       Z05 w b' o' cs'.length=some cs'/\((∃ o,base=some (b',o)/\o<=o'/\o'+cs'.length<=o+1)\/(Al b'/\o'+cs'.length<=F b')):=by
      intro tg' f' hk hal hF
      obtain ⟨h3,h4⟩:=Z3w hSA (path:=p) hk (λb2 o2 hbs=>by
       simp only [Option.some.injEq,Prod.mk.injEq] at hbs
       obtain ⟨rfl,rfl⟩:=hbs
       rw [hcl];exact hce) hl
      refine ⟨h3,.inr ?_⟩
      rcases h4 with ⟨o2,h5,h6,h7⟩ | h4
      ·simp only [Option.some.injEq,Prod.mk.injEq] at h5
       obtain ⟨rfl,rfl⟩:=h5
       exact ⟨hal,by omega⟩
      ·exact h4
     rcases h with ⟨_,hn,_⟩ | ⟨ho,b2,o2,fps,hbb,hal,rfl,hlf,hr,hF,he⟩ | ⟨ho,rfl,h⟩
     ·cases hn
     ·simp only [Option.some.injEq,Addr.mk.injEq,and_true] at hbb
      obtain ⟨rfl,rfl⟩:=hbb
      obtain ⟨c2,hc2,hk⟩:=he i hi
      rw [hce] at hc2
      cases hc2
      exact key hk hal (by omega)
     ·rcases h with h | ⟨b2,o2,hbb,htb,hF,he⟩
      ·subst h;simp at hi
      ·simp only [Option.some.injEq,Addr.mk.injEq,and_true] at hbb
       obtain ⟨rfl,rfl⟩:=hbb
       obtain ⟨c2,hc2,hk⟩:=he i hi
       rw [hce] at hc2
       cases hc2
       refine key hk ?_ hF
       cases t with
       | S=>exact hSA b htb
       | N=>exact htb
       | _=>cases ho
    ·cases hl
   ·cases hl
  ·cases hl
 | .fst::_,.int _,_,_,_,_,_,_,_,_,_,_,hl=>by simp [Z00] at hl
 | .fst::_,.bool,_,_,_,_,_,_,_,_,_,_,hl=>by simp [Z00] at hl
 | .fst::_,.str,_,_,_,_,_,_,_,_,_,_,hl=>by simp [Z00] at hl
 | .fst::_,.unit,_,_,_,_,_,_,_,_,_,_,hl=>by simp [Z00] at hl
 | .fst::_,.slice _,_,_,_,_,_,_,_,_,_,_,hl=>by simp [Z00] at hl
 | .snd::_,.int _,_,_,_,_,_,_,_,_,_,_,hl=>by simp [Z00] at hl
 | .snd::_,.bool,_,_,_,_,_,_,_,_,_,_,hl=>by simp [Z00] at hl
 | .snd::_,.str,_,_,_,_,_,_,_,_,_,_,hl=>by simp [Z00] at hl
 | .snd::_,.unit,_,_,_,_,_,_,_,_,_,_,hl=>by simp [Z00] at hl
 | .snd::_,.slice _,_,_,_,_,_,_,_,_,_,_,hl=>by simp [Z00] at hl
 | .idx _::_,.int _,_,_,_,_,_,_,_,_,_,_,hl=>by simp [Z00] at hl
 | .idx _::_,.bool,_,_,_,_,_,_,_,_,_,_,hl=>by simp [Z00] at hl
 | .idx _::_,.str,_,_,_,_,_,_,_,_,_,_,hl=>by simp [Z00] at hl
 | .idx _::_,.unit,_,_,_,_,_,_,_,_,_,_,hl=>by simp [Z00] at hl
 | .idx _::_,.pair _ _,_,_,_,_,_,_,_,_,_,_,hl=>by simp [Z00] at hl
theorem Z1F (I:Inv W0 M σ a w G xs) {p:Place} {cs:List Value} {b o:Nat} (hp:Z0C σ G a w p cs (some (b,o))) {w2:World} (hc:Z6i w G w2) :
  Z05 w2 b o cs.length=some cs:=by
 obtain ⟨τ,l,bs,hct,hr,hl⟩:=hp
 obtain ⟨c,hcn,rfl⟩:=Option.map_eq_some_iff.1 hct
 obtain ⟨l',b',fp,hr',hrp,hw⟩:=Z0H I hcn
 rw [hr] at hr'
 cases hr'
 have hroot:∀ b o,bs=some (b,o)->Z05 w b o l.length=some l/\w2.heap[b]? = w.heap[b]? := by
  intro b o hbs
  rcases hw with ⟨hb,hbx,_,hbe⟩ | ⟨hb,_,_,hbe,_⟩
  ·rw [hbe] at hbs
   simp only [Option.some.injEq,Prod.mk.injEq] at hbs
   obtain ⟨rfl,rfl⟩:=hbs
   obtain ⟨⟨cc,T,hcc,hrr⟩,hwho⟩:=I.box _ _ hbx
   refine ⟨?_,hc.2 _ _ hwho⟩
   have:l=cc.toList:=by
    unfold Z09 at hr
    rw [hb] at hr
    simp only [hcc,Option.some.injEq,Prod.mk.injEq] at hr
    exact hr.1.symm
   subst this
   unfold Z05
   rw [hcc]
   simp only [Nat.zero_add,List.drop_zero]
   rw [if_pos (by have:cc.toList.length=cc.size:=Array.length_toList;omega),List.take_length]
  ·rw [hbe] at hbs;cases hbs
 obtain ⟨h1,h2⟩:=Z3w (Ghost.St_Al I) hrp (λb o hbs=>(hroot b o hbs).1) hl
 rcases h2 with ⟨o2,h3,_⟩ | ⟨hal,hF⟩
 ·rw [Z11 (hroot _ _ h3).2];exact h1
 ·exact hc.1 b (Z0Y h1) hal _ _ _ hF h1
theorem Z1M (I:Inv W0 M σ a w G xs) {p:Place} {u:TVal} {cs:List Value} {base:Option (Nat×Nat)} (h:σ.getAt p=some u) (hp:Z0C σ G a w p cs base) :
  cs.length=size u.τ/\∀ c∈cs,one c=true:=by
 obtain ⟨fp,hr⟩:=Z2v I h hp
 exact ⟨hr.len.1,hr.ones⟩
theorem Z2A (I:Inv W0 M σ a w G xs) {p:Place} {ag:Bool} {tv:TV} {v:Value} {cs:List Value} {base:Option (Nat×Nat)} (h:Z37 σ p ag=some tv) (hp:Z0C σ G a w p cs base)
  (hv:Z02 v=cs) (hs:Z0f ag v):Z01 σ G a w tv v []:=by
 unfold Z37 at h
 split at h
 ·rename_i u hu
  cases h
  split
  ·rename_i hl
   obtain ⟨fp,hr⟩:=Z2v I hu hp
   have hfp:fp=[]:=hr.fp_nil λt ht=>by
    have:=List.all_eq_true.1 hl t ht
    cases t<;>first | rfl | cases this
   subst hfp
   exact ⟨hs,by rw [hv];exact hr⟩
  ·exact ⟨rfl,.inr ⟨cs,base,hp,hv,hs⟩⟩
 ·cases h
theorem Z0x.some {p:Place} {v:Value} {u:TVal} (h:Z0x σ G a w p v) (hg:σ.getAt p=some u):∃ cs b,Z0C σ G a w p cs (some b)/\v= .pointer (some ⟨b.1,b.2,none⟩):=by
 rcases h with h | h
 ·obtain ⟨c,hc,_⟩:=Z0D hg
  rw [State.ct,hc] at h;cases h
 ·exact h
theorem Z03 {ρ:Operand->Value} {o:Oper} {op:Op} (h:o.op=op):execOp ρ o=execOp ρ { o with op:=op }:=by cases o;simp only at h;subst h;rfl
def Z5P (P:Program) (σ:State) (a:Act) (w:World) (G:Ghost) (o:Oper) (tv:TV):Prop:=
 ∃ v,Z01 σ G a w tv v []/\∀ w2,Z6i w G w2->(execOp a.eval o).run P w2= .ok (.value v) w2
def Z0P (P:Program) (σ:State) (a:Act) (w:World) (G:Ghost) (o:Oper) (tv:TV):Prop:=
 ∃ v,Z01 σ G a w tv v []/\∀ w2,(execOp a.eval o).run P w2= .ok (.value v) w2
theorem Z0P.ok {P:Program} {σ:State} {a:Act} {w:World} {G:Ghost} {o:Oper} {tv:TV} (h:Z0P P σ a w G o tv):Z5P P σ a w G o tv:=by
 obtain ⟨v,h1,h2⟩:=h
 exact ⟨v,h1,λw2 _=>h2 w2⟩
theorem Z8W {P:Program} {tys:List (TypeId×Ty×List TypeId)} (hT:Z0e P tys) (I:Inv W0 M σ a w G xs) {o:Oper} {t:TypeId} {x:Operand} (ho:o.op= .load t x) {g:Bool} {tv:TV}
  (h:Z0l tys σ o.op=some (g,tv)):Z5P P σ a w G o tv:=by
 rw [ho] at h
 simp only [Z0l] at h
 have hpk:=Z0w I x
 split at h
 ·rename_i τ p hτ hp
  rw [hp] at hpk
  have hpk:=hpk (by simp)
  split at h
  ·rename_i u hu
   split at h
   ·rename_i hut
    obtain ⟨tv',hrt,he⟩:=Option.map_eq_some_iff.1 h
    simp only [Prod.mk.injEq] at he
    obtain ⟨rfl,rfl⟩:=he
    obtain ⟨⟨τ',l⟩,hta,hτe⟩:=Option.map_eq_some_iff.1 hτ
    simp only at hτe;subst hτe
    obtain ⟨cs,b,hpl,hv⟩:=hpk.2.2.2.some hu
    obtain ⟨hlen,hone⟩:=Z1M I hu hpl
    have hag:Z0p tys t= !l.isEmpty:=by simp [Z0p,hta]
    have hgo:=Z1i (ag:=Z0p tys t) hone (λhf=>by
     rw [hlen,hut]
     rw [hag] at hf
     have hl:l=[]:=by simpa using hf
     obtain ⟨_,_,_,_,h5,h6⟩:=(hT t τ' l hta).und hl
     cases τ'<;>first | rfl | (exact absurd rfl h5) | (exact absurd rfl (h6 _ _)))
    refine ⟨Z0L (Z0p tys t) cs,Z2A I hrt hpl hgo.1 hgo.2,λw2 hc=> ?_⟩
    have hcell:=Z1F I hpl hc
    rw [hlen,hut] at hcell
    have:=Z1Z (w:=w2) hT hta hcell
    rw [Z03 ho]
    simp only [execOp,hv,Instr.loadAt,Instr.sureAddr,Sem.run_bind,Sem.run_pure,Result.andThen_ok,this,hag]
   ·cases h
  ·cases h
 ·rename_i τ p hτ hp
  rw [hp] at hpk
  have hpk:=hpk (by simp)
  split at h
  ·rename_i u hu
   split at h
   ·rename_i hut
    obtain ⟨tv',hrt,he⟩:=Option.map_eq_some_iff.1 h
    simp only [Prod.mk.injEq] at he
    obtain ⟨rfl,rfl⟩:=he
    obtain ⟨⟨τ',l⟩,hta,hτe⟩:=Option.map_eq_some_iff.1 hτ
    simp only at hτe;subst hτe
    obtain ⟨cs,b,hpl,hv⟩:=hpk.2.some hu
    obtain ⟨hlen,hone⟩:=Z1M I hu hpl
    have hag:Z0p tys t= !l.isEmpty:=by simp [Z0p,hta]
    have hgo:=Z1i (ag:=Z0p tys t) hone (λhf=>by
     rw [hlen,hut]
     rw [hag] at hf
     have hl:l=[]:=by simpa using hf
     obtain ⟨_,_,_,_,h5,h6⟩:=(hT t τ' l hta).und hl
     cases τ'<;>first | rfl | (exact absurd rfl h5) | (exact absurd rfl (h6 _ _)))
    refine ⟨Z0L (Z0p tys t) cs,Z2A I hrt hpl hgo.1 hgo.2,λw2 hc=> ?_⟩
    have hcell:=Z1F I hpl hc
    rw [hlen,hut] at hcell
    have:=Z1Z (w:=w2) hT hta hcell
    rw [Z03 ho]
    simp only [execOp,hv,Instr.loadAt,Instr.sureAddr,Sem.run_bind,Sem.run_pure,Result.andThen_ok,this,hag]
   ·cases h
  ·cases h
 ·rename_i τ u tg hτ hp
  rw [hp] at hpk
  obtain ⟨_,hto,b,off,cs,hv,hcell,htb,hF,hN,hr⟩:=hpk (by simp)
  split at h
  ·rename_i hut
   simp only [Option.some.injEq,Prod.mk.injEq] at h
   obtain ⟨rfl,rfl⟩:=h
   obtain ⟨⟨τ',l⟩,hta,hτe⟩:=Option.map_eq_some_iff.1 hτ
   simp only at hτe;subst hτe
   have hlen:=hr.len.1
   have hag:Z0p tys t= !l.isEmpty:=by simp [Z0p,hta]
   have hgo:=Z1i (ag:=Z0p tys t) hr.ones (λhf=>by
    rw [hlen,hut]
    rw [hag] at hf
    have hl:l=[]:=by simpa using hf
    obtain ⟨_,_,_,_,h5,h6⟩:=(hT t τ' l hta).und hl
    cases τ'<;>first | rfl | (exact absurd rfl h5) | (exact absurd rfl (h6 _ _)))
   refine ⟨Z0L (Z0p tys t) cs,⟨hgo.2,?_⟩,λw2 hc=> ?_⟩
   ·rw [hgo.1]
    exact hr.alias (Ghost.St_Al I)
   ·have hal:G.Al b:=by
     cases tg with
     | S=>exact Ghost.St_Al I b htb
     | N=>exact htb
     | _=>cases hto
    have hcell2:=hc.1 b (Z0Y hcell) hal _ _ _ hF hcell
    rw [hut] at hcell2
    have:=Z1Z (w:=w2) hT hta hcell2
    rw [Z03 ho]
    simp only [execOp,hv,Instr.loadAt,Instr.sureAddr,Sem.run_bind,Sem.run_pure,Result.andThen_ok,this,hag]
  ·cases h
 ·rename_i τ r τr p hτ hp
  rw [hp] at hpk
  obtain ⟨_,hfl,b,off,τ2,hv,hat,hlr,hcell,hSt,hF⟩:=hpk (by simp)
  split at h
  ·rename_i c hsl
   split at h
   ·rename_i hcr
    split at h
    ·rename_i u hu
     split at h
     ·rename_i hut
      obtain ⟨tv',hrt,he⟩:=Option.map_eq_some_iff.1 h
      simp only [Prod.mk.injEq] at he
      obtain ⟨rfl,rfl⟩:=he
      obtain ⟨⟨τ',l⟩,hta,hτe⟩:=Option.map_eq_some_iff.1 hτ
      simp only at hτe;subst hτe
      subst hcr
      obtain ⟨hlc,_⟩:=Z0V (w:=w) (cs:=Z02 (a.tmps.getD r undef)) (base:=none) hat hlr
      have hpl:Z0C σ G a w ⟨false,r,p⟩ (((Z02 (a.tmps.getD r undef)).drop (Z0g c.τ p)).take (size τ2)) none:=
       ⟨c.τ,Z02 (a.tmps.getD r undef),none,by simp [State.ct,State.content,hsl],rfl,hlc⟩
      obtain ⟨hlen,hone⟩:=Z1M I hu hpl
      have hlen2:=Z1E hcell
      have hag:Z0p tys t= !l.isEmpty:=by simp [Z0p,hta]
      have hgo:=Z1i (ag:=Z0p tys t) hone (λhf=>by
       rw [hlen,hut]
       rw [hag] at hf
       have hl:l=[]:=by simpa using hf
       obtain ⟨_,_,_,_,h5,h6⟩:=(hT t τ' l hta).und hl
       cases τ'<;>first | rfl | (exact absurd rfl h5) | (exact absurd rfl (h6 _ _)))
      refine ⟨Z0L (Z0p tys t) _,Z2A I hrt hpl hgo.1 hgo.2,λw2 hc=> ?_⟩
      have hcell2:=hc.1 b (Z0Y hcell) (Ghost.St_Al I b hSt) _ _ _ hF hcell
      have hsz:size τ2=size τ':=by rw [<-hlen2,hlen,hut]
      rw [hsz] at hcell2
      have:=Z1Z (w:=w2) hT hta hcell2
      rw [Z03 ho]
      simp only [execOp,hv,Instr.loadAt,Instr.sureAddr,Sem.run_bind,Sem.run_pure,Result.andThen_ok,this,hag,hsz]
     ·cases h
    ·cases h
   ·cases h
  ·cases h
 ·cases h
end
end Go.PI
namespace Go.PI
section
variable {W0:Base} {M:Nat->Prop} {σ:State} {a:Act} {w:World} {G:Ghost} {xs:List Nat} {P:Program} {tys:List (TypeId×Ty×List TypeId)} {o:Oper} {g:Bool} {tv:TV}
theorem Z0B {τ:Ty} {x:El τ} {v:Value} (h1:one v=true) (h2:Rp w G.F G.St G.Al τ [] [v] x []):Z01 σ G a w (.val (Z0A τ x)) v []:=
 ⟨h1,by rw [Z0r h1];exact h2⟩
theorem Z9b {σ:State} {i:Nat} (h:Z0v .dead σ.slots i≠ .dead):i<σ.slots.length:=by
 rcases Nat.lt_or_ge i σ.slots.length with h1 | h1
 ·exact h1
 ·exact absurd (Z2g (d:=TV.dead) σ.slots i h1) h
theorem Z3h (I:Inv W0 M σ a w G xs) {x:Operand} (ho:o.op= .move x) (h:Z0l tys σ o.op=some (g,tv)):Z0P P σ a w G o tv:=by
 rw [ho] at h
 simp only [Z0l] at h
 have hp:=Z0w I x
 split at h
 ·cases h
 ·cases h
 ·rename_i v ags hpk
  split at h
  ·rename_i t
   simp only [Option.some.injEq,Prod.mk.injEq] at h
   obtain ⟨rfl,rfl⟩:=h
   have hsl:σ.slot t= .tup v ags:=by
    simp only [State.peek] at hpk
    split at hpk
    ·split at hpk<;>cases hpk
    ·exact hpk
   have hs:=I.slot t (Z9b (by rw [show Z0v .dead σ.slots t= .tup v ags from hsl];simp))
   rw [hsl] at hs
   obtain ⟨⟨vs,hv,hsh⟩,hr⟩:=hs
   refine ⟨a.eval (.tmp t),⟨rfl,λτ hτ=>⟨rfl,vs,hv,?_⟩⟩,λw2=>by rw [Z03 ho];rfl⟩
   rw [Z1m,hsl] at hτ
   cases hτ
   exact hsh
  ·cases h
 ·rename_i h1 h0 h2
  simp only [Option.some.injEq,Prod.mk.injEq] at h
  obtain ⟨rfl,rfl⟩:=h
  refine ⟨a.eval x,hp (λv ags hh=>h2 v ags hh),λw2=> ?_⟩
  rw [Z03 ho];rfl
theorem Z0R (I:Inv W0 M σ a w G xs) {x:Operand} {k:IntKind} {n:Int} {tg:List Tag} (h:σ.look x=some ⟨.int k,false,n,tg⟩):a.eval x= .int k n:=by
 obtain ⟨h1,h2⟩:=Z1r I h;exact Z9A h2 h1
theorem Z26 (I:Inv W0 M σ a w G xs) {x:Operand} {b:Bool} {tg:List Tag} (h:σ.look x=some ⟨.bool,false,b,tg⟩):a.eval x= .bool b:=by
 obtain ⟨h1,h2⟩:=Z1r I h;exact Z5M h2 h1
theorem Z27 (I:Inv W0 M σ a w G xs) {x:Operand} {s:ByteArray} {tg:List Tag} (h:σ.look x=some ⟨.str,false,s,tg⟩):a.eval x= .string s:=by
 obtain ⟨h1,h2⟩:=Z1r I h;exact Z9B h2 h1
theorem Z8u (I:Inv W0 M σ a w G xs) {x:Operand} {e:Ty} {l:List (El e)} {tg:List Tag} (h:σ.look x=some ⟨.slice e,false,l,tg⟩):∃ ad cap,a.eval x= .slice ad l.length cap/\l.length<=cap:=by
 obtain ⟨h1,h2⟩:=Z1r I h;exact Z2C h2 h1
theorem Z6Q (I:Inv W0 M σ a w G xs) {op:UnOp} {t:TypeId} {x:Operand} (ho:o.op= .unOp op t x) (h:Z0l tys σ o.op=some (g,tv)):Z0P P σ a w G o tv:=by
 rw [ho] at h
 cases op
 case neg=>
  simp only [Z0l] at h
  split at h
  ·rename_i k n tg hl
   simp only [Option.some.injEq,Prod.mk.injEq] at h
   obtain ⟨rfl,rfl⟩:=h
   refine ⟨.int k (k.wrap (0-n)),Z0B rfl ⟨rfl,rfl,rfl⟩,λw2=> ?_⟩
   rw [Z03 ho]
   simp only [execOp,Z0R I hl]
   simp [Op.unary,Op.intArith]
  ·cases h
 case not=>
  simp only [Z0l] at h
  split at h
  ·rename_i b tg hl
   simp only [Option.some.injEq,Prod.mk.injEq] at h
   obtain ⟨rfl,rfl⟩:=h
   refine ⟨.bool (!b),Z0B rfl ⟨rfl,rfl,rfl⟩,λw2=> ?_⟩
   rw [Z03 ho]
   simp only [execOp,Z26 I hl]
   simp [Op.unary]
  ·cases h
 all_goals (simp only [Z0l] at h;cases h)
theorem Z9x {x y:ByteArray} (h:lim (x.size+y.size)=true) (w2:World):(Op.stringOp .add x y).run P w2= .ok (.string (x++y)) w2:=by
 refine run_string_add_sum (P:=P) w2 x y ?_
 have h2:x.size+y.size<=LIM:=of_decide_eq_true h
 have:LIM=2147483648:=rfl
 omega
theorem Z9y {k:IntKind} {m n:Int} (h:¬ n=0) (w2:World):(Op.intDiv .quo k m n).run P w2= .ok (.int k (k.wrap (m.tdiv n))) w2:=by
 unfold Op.intDiv;rw [if_neg h];rfl
theorem Z9z {k:IntKind} {m n:Int} (h:¬ n=0) (w2:World):(Op.intDiv .rem k m n).run P w2= .ok (.int k (m.tmod n)) w2:=by
 unfold Op.intDiv;rw [if_neg h];rfl
theorem Z5C {t:TypeId} (h:P.underlying t=some .bool) (x y:Bool) (w2:World):(Op.equal t (.bool x) (.bool y)).run P w2= .ok (x==y) w2:=by
 show (Op.equalIn (9999+1) t (.bool x) (.bool y)).run P w2=_
 unfold Op.equalIn
 simp only [Sem.run_bind,run_underlying h,Result.andThen_ok]
 rfl
theorem Z8T (op:BinOp) (k:IntKind) (m n:Int) {r:Bool×TVal} (hr:Z97 op k m n=some r) (h1:r.1=true) (t:TypeId) (x y:Operand) :
  ∃ v,(∀ {σ:State} {a:Act} {w:World} {G:Ghost},Z01 σ G a w (.val r.2) v [])/\∀ w2,((do eqGuard op t x y (.int k m) (.int k n);binOp op t (.int k m) (.int k n):Sem Value)).run P w2= .ok v w2:=by
 cases op<;>simp only [Z97,Option.some.injEq,reduceCtorEq] at hr<;>subst hr<;>simp only [Bool.not_eq_true',decide_eq_false_iff_not] at h1
 case quo=>
  refine ⟨_,Z0B rfl ⟨rfl,rfl,rfl⟩,λw2=> ?_⟩
  simp only [eqGuard_at_int,Sem.run_bind,Sem.run_pure,Result.andThen_ok]
  simp only [binOp,ne_eq,not_true_eq_false,if_false]
  exact Z9y h1 w2
 case rem=>
  refine ⟨_,Z0B rfl ⟨rfl,rfl,rfl⟩,λw2=> ?_⟩
  simp only [eqGuard_at_int,Sem.run_bind,Sem.run_pure,Result.andThen_ok]
  simp only [binOp,ne_eq,not_true_eq_false,if_false]
  exact Z9z h1 w2
 all_goals
  refine ⟨_,Z0B rfl ⟨rfl,rfl,rfl⟩,λw2=> ?_⟩
  simp [eqGuard_at_int,binOp,Op.intArith,Op.intCmp,Op.intBits]
theorem Z8U (op:BinOp) (m n:ByteArray) {r:Bool×TVal} (hr:Z98 op m n=some r) (h1:r.1=true) (t:TypeId) (x y:Operand) :
  ∃ v,(∀ {σ:State} {a:Act} {w:World} {G:Ghost},Z01 σ G a w (.val r.2) v [])/\∀ w2,((do eqGuard op t x y (.string m) (.string n);binOp op t (.string m) (.string n):Sem Value)).run P w2= .ok v w2:=by
 cases op<;>simp only [Z98,Option.some.injEq,reduceCtorEq] at hr<;>subst hr
 case add=>
  refine ⟨.string (m++n),Z0B rfl ⟨rfl,rfl,rfl⟩,λw2=> ?_⟩
  simp only [eqGuard_at_string,binOp_string_add,Sem.run_bind,Sem.run_pure,Result.andThen_ok]
  exact Z9x h1 w2
 all_goals exact ⟨_,Z0B rfl ⟨rfl,rfl,rfl⟩,λw2=>by simp [eqGuard_at_string,binOp,Op.stringOp]⟩
theorem Z0S {t:TypeId} {τ:Ty} (h:Z0z tys t=some τ):∃ l,Z0o tys t=some (τ,l)/\Z0p tys t= !l.isEmpty:=by
 obtain ⟨⟨τ',l⟩,hta,hτe⟩:=Option.map_eq_some_iff.1 h
 simp only at hτe;subst hτe
 exact ⟨l,hta,by simp [Z0p,hta]⟩
theorem Z7E (hT:Z0e P tys) {t:TypeId} (h:Z0z tys t=some .bool) (hg:Z0p tys t=false):P.underlying t=some .bool:=by
 obtain ⟨l,hta,hag⟩:=Z0S h
 rw [hag] at hg
 have hl:l=[]:=by simpa using hg
 exact ((hT t _ _ hta).und hl).2.1 rfl
theorem Z1J (hT:Z0e P tys) {t:TypeId} (h:Z0z tys t=some .str) (hg:Z0p tys t=false):P.underlying t=some .string:=by
 obtain ⟨l,hta,hag⟩:=Z0S h
 rw [hag] at hg
 have hl:l=[]:=by simpa using hg
 exact ((hT t _ _ hta).und hl).2.2.1 rfl
theorem Z5u (hT:Z0e P tys) {t:TypeId} {k:IntKind} (h:Z0z tys t=some (.int k)) (hg:Z0p tys t=false):P.underlying t=some (.int k):=by
 obtain ⟨l,hta,hag⟩:=Z0S h
 rw [hag] at hg
 have hl:l=[]:=by simpa using hg
 exact ((hT t _ _ hta).und hl).1 k rfl
theorem Z12 (hT:Z0e P tys) {t:TypeId} {e:Ty} (h:Z0z tys t=some (.slice e)) (hg:Z0p tys t=false):∃ et l,P.underlying t=some (.slice et)/\Z0o tys et=some (e,l)/\(Z7q e=true->l=[]):=by
 obtain ⟨l,hta,hag⟩:=Z0S h
 rw [hag] at hg
 have hl:l=[]:=by simpa using hg
 obtain ⟨et,h1,h2,h4⟩:=((hT t _ _ hta).und hl).2.2.2.1 e rfl
 obtain ⟨l',h3,h5⟩:=Z0S h2
 exact ⟨et,l',h1,h3,λhp=>by have:=h4 hp;rw [h5] at this;simpa using this⟩
theorem Z8V (hT:Z0e P tys) (I:Inv W0 M σ a w G xs) {op:BinOp} {t ty:TypeId} {x y:Operand} (ho:o.op= .binOp op t x y ty) {u v:TVal} (hu:σ.look x=some u) (hv:σ.look y=some v) {r:Bool×TVal} (hr:Z99 tys t op u v=some r) (hr1:r.1=true):Z0P P σ a w G o (.val r.2):=by
 ·unfold Z99 at hr
  split at hr
  ·rename_i k m _ k2 n _
   simp only [Option.some.injEq] at hr
   subst hr
   simp only [Bool.not_eq_true',decide_eq_false_iff_not] at hr1
   refine ⟨_,Z0B rfl ⟨rfl,rfl,rfl⟩,λw2=> ?_⟩
   rw [Z03 ho]
   simp only [execOp,Z0R I hu,Z0R I hv]
   have:¬ (n<0):=hr1
   simp [eqGuard_at_int,binOp,Op.shift,this]
  ·rename_i k m _ k2 n _
   simp only [Option.some.injEq] at hr
   subst hr
   simp only [Bool.not_eq_true',decide_eq_false_iff_not] at hr1
   refine ⟨_,Z0B rfl ⟨rfl,rfl,rfl⟩,λw2=> ?_⟩
   rw [Z03 ho]
   simp only [execOp,Z0R I hu,Z0R I hv]
   have:¬ (n<0):=hr1
   simp [eqGuard_at_int,binOp,Op.shift,this]
  ·rename_i k m _ k2 n _ _ _
   split at hr
   ·rename_i hk
    subst hk
    obtain ⟨v,hs,hv2⟩:=Z8T (P:=P) op k m n hr hr1 t x y
    refine ⟨v,hs,λw2=> ?_⟩
    rw [Z03 ho]
    simp only [execOp,Z0R I hu,Z0R I hv]
    have:=hv2 w2
    simp only [Sem.run_bind] at this ⊢
    rw [this];rfl
   ·cases hr
  ·rename_i m _ n _
   obtain ⟨v,hs,hv2⟩:=Z8U (P:=P) op m n hr hr1 t x y
   refine ⟨v,hs,λw2=> ?_⟩
   rw [Z03 ho]
   simp only [execOp,Z27 I hu,Z27 I hv]
   have:=hv2 w2
   simp only [Sem.run_bind] at this ⊢
   rw [this];rfl
  ·rename_i b1 _ b2 _
   split at hr
   ·rename_i hty
    simp only [Option.some.injEq] at hr
    subst hr
    have hl:=Z7E hT hty.1 hty.2
    refine ⟨_,Z0B rfl ⟨rfl,rfl,rfl⟩,λw2=> ?_⟩
    rw [Z03 ho]
    simp only [execOp,Z26 I hu,Z26 I hv]
    simp only [eqGuard_at_bool,binOp,Sem.run_bind,Sem.run_pure,Result.andThen_ok,Z5C hl]
   ·cases hr
  ·rename_i b1 _ b2 _
   split at hr
   ·rename_i hty
    simp only [Option.some.injEq] at hr
    subst hr
    have hl:=Z7E hT hty.1 hty.2
    refine ⟨_,Z0B rfl ⟨rfl,rfl,rfl⟩,λw2=> ?_⟩
    rw [Z03 ho]
    simp only [execOp,Z26 I hu,Z26 I hv]
    simp only [eqGuard_at_bool,binOp,Sem.run_bind,Sem.run_pure,Result.andThen_ok,Z5C hl]
   ·cases hr
  ·cases hr
end
end Go.PI
namespace Go.PI
section
variable {W0:Base} {M:Nat->Prop} {σ:State} {a:Act} {w:World} {G:Ghost} {xs:List Nat} {P:Program} {tys:List (TypeId×Ty×List TypeId)} {o:Oper} {g:Bool} {tv:TV}
theorem ZaF (hT:Z0e P tys) {t:TypeId} {τ:Ty} (h:Z0z tys t=some τ):∃ d,P.underlying t=some d:=by
 obtain ⟨l,hta,hag⟩:=Z0S h
 cases l with
 | cons c l=>obtain ⟨fs,hf,_⟩:=(hT t _ _ hta).str (by simp);exact ⟨_,hf⟩
 | nil=>
  obtain ⟨h1,h2,h3,h4,h5,h6⟩:=(hT t _ _ hta).und rfl
  cases τ with
  | int k=>exact ⟨_,h1 k rfl⟩
  | bool=>exact ⟨_,h2 rfl⟩
  | str=>exact ⟨_,h3 rfl⟩
  | unit=>exact absurd rfl h5
  | slice e=>obtain ⟨et,h7,_⟩:=h4 e rfl;exact ⟨_,h7⟩
  | pair a b=>exact absurd rfl (h6 a b)
theorem Z8k (l:List Int) (r:ByteArray):l.foldl (λ(r:ByteArray) n=>r.push (UInt8.ofNat n.toNat)) r=⟨r.data++(l.map λn=>UInt8.ofNat n.toNat).toArray⟩:=by
 induction l generalizing r with
 | nil=>simp
 | cons n l ih=>
  simp only [List.foldl_cons,ih]
  congr 1
  simp [ByteArray.push]
theorem Z7M (I:Inv W0 M σ a w G xs) {x:Operand} {l:List Int} {tg:List Tag} (h:σ.look x=some ⟨.slice (.int .u8),false,l,tg⟩) {w2:World} (hc:Z6i w G w2) :
  (a.eval x= .slice none 0 0/\l=[])\/∃ ad cap,a.eval x= .slice ad l.length cap/\(l=[]\/∃ b off,ad=some ⟨b,off,none⟩/\∀ k (hk:k<l.length),w2.cell? ((⟨b,off,none⟩:Addr).add k)=some (.int .u8 l[k])):=by
 obtain ⟨h1,h2⟩:=Z1r I h
 obtain ⟨t,ad,cap,_,hcs,hl,hh⟩:=h1
 rw [Z0r h2] at hcs
 have hv:a.eval x= .slice ad (List.length (α:=Int) l) cap:=by simpa using hcs
 right
 refine ⟨ad,cap,hv,?_⟩
 rcases hh with ⟨_,rfl,hx,_⟩ | ⟨ho,b,off,fps,hbb,hal,hfp,_⟩ | ⟨ho,_,hx⟩
 ·exact .inl hx
 ·cases hfp
 ·rcases hx with hx | ⟨b,off,hbb,htb,hF,he⟩
  ·exact .inl hx
  ·refine .inr ⟨b,off,hbb,λk hk=> ?_⟩
   obtain ⟨cs',hc',hr⟩:=he k hk
   simp only [size,Nat.mul_one] at hc' hF
   have hal:G.Al b:=by
    cases t with
    | S=>exact Ghost.St_Al I b htb
    | N=>exact htb
    | _=>cases ho
   have:=hc.1 b (Z0Y hc') hal _ _ _ (by have:k<List.length (α:=Int) l:=hk;omega) hc'
   have h3:=Z22 this 0 (.int .u8 (List.get (α:=Int) l ⟨k,hk⟩)) (by rw [hr.1];rfl)
   have e1:(⟨b,off+k,none⟩:Addr).add 0=⟨b,off+k,none⟩:=by simp [Addr.add]
   have e2:(⟨b,off,none⟩:Addr).add k=⟨b,off+k,none⟩:=by unfold Addr.add;split<;>simp_all
   rw [e1] at h3
   rw [e2]
   exact h3
theorem Z7z (hT:Z0e P tys) (I:Inv W0 M σ a w G xs) {s t:TypeId} {x:Operand} (ho:o.op= .convert s t x) (h:Z0l tys σ o.op=some (g,tv)):Z5P P σ a w G o tv:=by
 rw [ho] at h
 simp only [Z0l] at h
 split at h
 ·cases h
 rename_i hag
 simp only [Bool.or_eq_true,not_or,Bool.not_eq_true] at hag
 split at h
 ·rename_i k j k2 n _ hs ht hl
  simp only [Option.some.injEq,Prod.mk.injEq] at h
  obtain ⟨rfl,rfl⟩:=h
  have hv:=Z0R I hl
  refine ⟨.int j (j.wrap n),Z0B rfl ⟨rfl,rfl,rfl⟩,λw2 _=> ?_⟩
  rw [Z03 ho]
  simp [execOp,hv,convert,run_underlying (Z5u hT hs hag.1),run_underlying (Z5u hT ht hag.2),Conv.intToInt]
 ·rename_i b _ hs ht hl
  simp only [Option.some.injEq,Prod.mk.injEq] at h
  obtain ⟨rfl,rfl⟩:=h
  have hv:=Z27 I hl
  refine ⟨.string b,Z0B rfl ⟨rfl,rfl,rfl⟩,λw2 _=> ?_⟩
  rw [Z03 ho]
  simp [execOp,hv,convert,run_underlying (Z1J hT hs hag.1),run_underlying (Z1J hT ht hag.2)]
 ·rename_i l _ hs ht hl
  simp only [Option.some.injEq,Prod.mk.injEq] at h
  obtain ⟨rfl,rfl⟩:=h
  obtain ⟨et,le,hu,hea,hle⟩:=Z12 hT hs hag.1
  obtain rfl:=hle rfl
  have he:P.underlying et=some (.int .u8):=((hT et _ _ hea).und rfl).1 .u8 rfl
  refine ⟨.string (Z3C l),Z0B rfl ⟨rfl,rfl,rfl⟩,λw2 hc=> ?_⟩
  rw [Z03 ho]
  rcases Z7M I hl hc with ⟨hv,hl0⟩ | ⟨ad,cap,hv,hcs⟩
  ·subst hl0
   simp [execOp,hv,convert,run_underlying hu,run_underlying (Z1J hT ht hag.2),run_underlying he,Conv.bytesToString,Z3C]
   rfl
  ·rcases hcs with hl0 | ⟨b,off,rfl,hcs⟩
   ·subst hl0
    cases ad with
    | none=>
     simp [execOp,hv,convert,run_underlying hu,run_underlying (Z1J hT ht hag.2),run_underlying he,Conv.bytesToString,Z3C]
     rfl
    | some ad=>
     have:=run_bytesToString (P:=P) w2 ad 0 cap [] (by simp [loadCells,loadCellsFrom])
     simp only [List.foldl_nil] at this
     simp [execOp,hv,convert,run_underlying hu,run_underlying (Z1J hT ht hag.2),run_underlying he,this,Z3C]
     rfl
   ·have hlc:=run_loadCells (P:=P) w2 ⟨b,off,none⟩ l.length (λj=> .int .u8 (l.getD j 0)) (λj hj=>by
     rw [hcs j hj,List.getD_eq_getElem?_getD,List.getElem?_eq_getElem hj];rfl)
    have hmap:((List.range l.length).map λj=>Value.int .u8 (l.getD j 0))=l.map (Value.int .u8):=by
     apply List.ext_getElem
     ·simp
     ·intro i h1 h2
      simp only [List.getElem_map,List.getElem_range]
      rw [List.getD_eq_getElem?_getD,List.getElem?_eq_getElem (by simpa using h2)];rfl
    rw [hmap] at hlc
    have:=run_bytesToString (P:=P) w2 ⟨b,off,none⟩ l.length cap l hlc
    rw [Z8k] at this
    simp [execOp,hv,convert,run_underlying hu,run_underlying (Z1J hT ht hag.2),run_underlying he,this,Z3C]
 ·cases h
theorem Z3r (I:Inv W0 M σ a w G xs) {x:Operand} (ho:o.op= .nilCheck x) (h:Z0l tys σ o.op=some (g,tv)):Z0P P σ a w G o tv:=by
 rw [ho] at h
 simp only [Z0l] at h
 have hp:=Z0w I x
 split at h
 ·rename_i p hpk
  rw [hpk] at hp
  have hp:=hp (by simp)
  split at h
  ·rename_i hs
   simp only [Option.some.injEq,Prod.mk.injEq] at h
   obtain ⟨rfl,rfl⟩:=h
   obtain ⟨u,hu⟩:=Option.isSome_iff_exists.1 hs
   obtain ⟨cs,b,hpl,hv⟩:=hp.2.2.2.some hu
   refine ⟨a.eval x,hp,λw2=> ?_⟩
   rw [Z03 ho]
   simp [execOp,hv]
  ·cases h
 ·rename_i v t hpk
  rw [hpk] at hp
  have hp:=hp (by simp)
  simp only [Option.some.injEq,Prod.mk.injEq] at h
  obtain ⟨rfl,rfl⟩:=h
  have hp2:=hp
  obtain ⟨_,_,b,off,cs,hv,_⟩:=hp2
  refine ⟨a.eval x,hp,λw2=> ?_⟩
  rw [Z03 ho]
  simp [execOp,hv]
 ·rename_i p hpk
  rw [hpk] at hp
  have hp:=hp (by simp)
  split at h
  ·rename_i hs
   simp only [Option.some.injEq,Prod.mk.injEq] at h
   obtain ⟨rfl,rfl⟩:=h
   obtain ⟨u,hu⟩:=Option.isSome_iff_exists.1 hs
   obtain ⟨cs,b,hpl,hv⟩:=hp.2.some hu
   refine ⟨a.eval x,hp,λw2=> ?_⟩
   rw [Z03 ho]
   simp [execOp,hv]
  ·cases h
 ·rename_i f ps hpk
  rw [hpk] at hp
  have hp:=hp (by simp)
  simp only [Option.some.injEq,Prod.mk.injEq] at h
  obtain ⟨rfl,rfl⟩:=h
  have hp2:=hp
  obtain ⟨_,vs,hv,_⟩:=hp2
  refine ⟨a.eval x,hp,λw2=> ?_⟩
  rw [Z03 ho]
  simp [execOp,hv]
 ·rename_i r τ p hpk
  rw [hpk] at hp
  have hp:=hp (by simp)
  simp only [Option.some.injEq,Prod.mk.injEq] at h
  obtain ⟨rfl,rfl⟩:=h
  have hp2:=hp
  obtain ⟨_,_,b,o2,τ2,hv,_⟩:=hp2
  refine ⟨a.eval x,hp,λw2=> ?_⟩
  rw [Z03 ho]
  simp [execOp,hv]
 ·rename_i f τs v hpk
  rw [hpk] at hp
  have hp:=hp (by simp)
  simp only [Option.some.injEq,Prod.mk.injEq] at h
  obtain ⟨rfl,rfl⟩:=h
  have hp2:=hp
  obtain ⟨_,us,hv,_⟩:=hp2
  refine ⟨a.eval x,hp,λw2=> ?_⟩
  rw [Z03 ho]
  simp [execOp,hv]
 ·cases h
theorem Z7A (hT:Z0e P tys) (I:Inv W0 M σ a w G xs) {c:Call} (ho:o.op= .call c) (h:Z0l tys σ o.op=some (g,tv)):Z0P P σ a w G o tv:=by
 rw [ho] at h
 simp only [Z0l] at h
 split at h
 ·rename_i x t hcal hargs htys
  have ha:c.args= #[x]:=by cases hca:c.args;rw [hca] at hargs;simp at hargs;rw [hargs]
  have hty:c.argTypes= #[t]:=by cases hca:c.argTypes;rw [hca] at htys;simp at htys;rw [htys]
  split at h
  ·rename_i s _ ht hl
   split at h
   ·cases h
   rename_i hag
   simp only [Option.some.injEq,Prod.mk.injEq] at h
   obtain ⟨rfl,rfl⟩:=h
   have hv:=Z27 I hl
   refine ⟨.int .i64 s.size,Z0B rfl ⟨rfl,rfl,rfl⟩,λw2=> ?_⟩
   rw [Z03 ho]
   simp [execOp,resolve,hcal,ha,hty,hv,invoke,builtin,Builtin.len_,run_underlying (Z1J hT ht (by simpa using hag)),goInt]
  ·rename_i e0 e l _ ht hl
   split at h
   ·cases h
   rename_i hag
   simp only [Option.some.injEq,Prod.mk.injEq] at h
   obtain ⟨rfl,rfl⟩:=h
   obtain ⟨ad,cap,hv,_⟩:=Z8u I hl
   obtain ⟨et,le,hu,_,_⟩:=Z12 hT ht (by simpa using hag)
   refine ⟨.int .i64 (List.length (α:=El e) l),Z0B rfl ⟨rfl,rfl,rfl⟩,λw2=> ?_⟩
   rw [Z03 ho]
   simp [execOp,resolve,hcal,ha,hty,hv,invoke,builtin,Builtin.len_,run_underlying hu,goInt]
  ·cases h
 ·rename_i x y hcal hargs
  have ha:c.args= #[x,y]:=by cases hca:c.args;rw [hca] at hargs;simp at hargs;rw [hargs]
  split at h
  ·rename_i k m _ k2 n _ hx hy
   split at h
   ·rename_i hk
    subst hk
    simp only [Option.some.injEq,Prod.mk.injEq] at h
    obtain ⟨rfl,rfl⟩:=h
    refine ⟨.int k (mxI m n),Z0B rfl ⟨rfl,rfl,rfl⟩,λw2=> ?_⟩
    rw [Z03 ho]
    simp [execOp,resolve,hcal,ha,Z0R I hx,Z0R I hy,invoke,builtin,Builtin.max_,Builtin.max2,mxI]
   ·cases h
  ·cases h
 ·rename_i x y hcal hargs
  have ha:c.args= #[x,y]:=by cases hca:c.args;rw [hca] at hargs;simp at hargs;rw [hargs]
  split at h
  ·rename_i k m _ k2 n _ hx hy
   split at h
   ·rename_i hk
    subst hk
    simp only [Option.some.injEq,Prod.mk.injEq] at h
    obtain ⟨rfl,rfl⟩:=h
    refine ⟨.int k (mnI m n),Z0B rfl ⟨rfl,rfl,rfl⟩,λw2=> ?_⟩
    rw [Z03 ho]
    simp [execOp,resolve,hcal,ha,Z0R I hx,Z0R I hy,invoke,builtin,Builtin.min_,Builtin.min2,mnI]
   ·cases h
  ·cases h
 ·cases h
end
end Go.PI
namespace Go.PI
section
variable {W0:Base} {M:Nat->Prop} {σ:State} {a:Act} {w:World} {G:Ghost} {xs:List Nat} {P:Program} {tys:List (TypeId×Ty×List TypeId)} {o:Oper} {g:Bool} {tv:TV}
theorem Z3P (I:Inv W0 M σ a w G xs) {x:Operand} {v:TVal} {n:Int} (h:σ.look x=some v) (hn:Z5n v=some n):∃ k,a.eval x= .int k n:=by
 unfold Z5n at hn
 split at hn
 ·cases hn;exact ⟨_,Z0R I h⟩
 ·cases hn;exact ⟨_,Z0R I h⟩
 ·cases hn
theorem Z3Q (I:Inv W0 M σ a w G xs) {x:Option Operand} {d n:Int} (h:Z5o σ x d=some n):(x.map a.eval=none/\n=d)\/∃ k,x.map a.eval=some (.int k n):=by
 unfold Z5o at h
 split at h
 ·cases h;exact .inl ⟨rfl,rfl⟩
 ·split at h
  ·rename_i o v hl
   obtain ⟨k,hk⟩:=Z3P I hl h
   exact .inr ⟨k,by simp [hk]⟩
  ·cases h
theorem Z6d {b:Bool} {len cap:Nat} {lo hi:Option Value} {i j:Int} (hlo:(lo=none/\i=0)\/∃ k,lo=some (.int k i)) (hhi:(hi=none/\j=(len:Int))\/∃ k,hi=some (.int k j))
  (h0:0<=i) (h1:i<=j) (h2:j<=(len:Int)) (h3:len<=cap) (w2:World):(Instr.sliceBounds b len cap lo hi none).run P w2= .ok (i.toNat,j.toNat,cap) w2:=by
 have hj:0<=j/\j<=(cap:Int):=by omega
 have hi':0<=i/\i<=((j.toNat:Nat):Int):=by omega
 have hj2:0<=j:=by omega
 have hj3:j<=(cap:Int):=by omega
 have hi2:i<=((j.toNat:Nat):Int):=by omega
 rcases hlo with ⟨rfl,rfl⟩ | ⟨k,rfl⟩<;>rcases hhi with ⟨rfl,rfl⟩ | ⟨k2,rfl⟩
 ·simp [Instr.sliceBounds]
 ·simp only [Instr.sliceBounds,Instr.sliceBound,asIntOf,Sem.run_bind,Sem.run_pure,Result.andThen_ok]
  rw [if_pos hj]
  simp
 ·have:0<=i/\i<=(len:Int):=by omega
  simp only [Instr.sliceBounds,Instr.sliceBound,asIntOf,Sem.run_bind,Sem.run_pure,Result.andThen_ok]
  rw [if_pos this]
  simp
 ·simp only [Instr.sliceBounds,Instr.sliceBound,asIntOf,Sem.run_bind,Sem.run_pure,Result.andThen_ok]
  rw [if_pos hj]
  simp only [Sem.run_pure,Result.andThen_ok]
  rw [if_pos hi']
  simp
theorem Z5m (b o n:Nat):(⟨b,o,none⟩:Addr).add n=⟨b,o+n,none⟩:=by unfold Addr.add;split<;>simp_all
theorem Z78 {i j:Int} {n:Nat} (h:Z8f i j n=true):0<=i/\i<=j/\j<=(n:Int):=by simpa [Z8f] using h
theorem Z5p {i:Int} {n:Nat} (h:inb i n=true):0<=i/\i<(n:Int):=by simpa [inb] using h
theorem Z8t {x:Operand} {v:TVal} (h:σ.look x=some v):∀ t∈v.tg,t.own=false:=by
 unfold State.look at h
 split at h
 ·rename_i u hu
  cases h
  unfold State.peek at hu
  split at hu
  ·split at hu
   ·rename_i t v' hsl
    split at hu
    ·cases hu
    ·rename_i ho
     cases hu
     intro t ht
     cases hx:t.own with
     | false=>rfl
     | true=>exact absurd (List.any_eq_true.2 ⟨t,ht,hx⟩) ho
   ·rename_i t h1
    exact absurd hu (h1 v)
  all_goals first | (cases hu;simp [Z0A];done) | cases hu
 ·rename_i p ag hu
  obtain ⟨u,_,rfl⟩:=Option.map_eq_some_iff.1 h
  intro t ht
  simp only [TVal.alias,List.mem_map] at ht
  obtain ⟨t',_,rfl⟩:=ht
  cases t'<;>rfl
 ·cases h
theorem Z6g (hT:Z0e P tys) (I:Inv W0 M σ a w G xs) {t:TypeId} {x:Operand} {lo hi mx:Option Operand} (ho:o.op= .slice t x lo hi mx) (h:Z0l tys σ o.op=some (g,tv)) (hg:g=true) :
  Z0P P σ a w G o tv:=by
 rw [ho] at h
 cases mx with
 | some m=>simp [Z0l] at h
 | none=>
 simp only [Z0l] at h
 split at h
 ·rename_i s tg ht hl
  split at h
  ·cases h
  rename_i hag
  split at h
  ·rename_i i j hi' hj'
   simp only [Option.some.injEq,Prod.mk.injEq] at h
   obtain ⟨hgc,rfl⟩:=h
   rw [hg] at hgc
   obtain ⟨h0,h1,h2⟩:=Z78 hgc
   have hv:=Z27 I hl
   refine ⟨.string (s.extract i.toNat j.toNat),Z0B rfl ⟨rfl,rfl,rfl⟩,λw2=> ?_⟩
   rw [Z03 ho]
   have hb:=Z6d (P:=P) (b:=false) (cap:=s.size) (Z3Q I hi') (Z3Q I hj') h0 h1 h2 (Nat.le_refl _) w2
   simp only [execOp,hv,Instr.sliceAt,Instr.slice,Sem.run_bind,run_underlying (Z1J hT ht (by simpa using hag)),Result.andThen_ok,Option.map_none,Option.isSome_none,Bool.false_eq_true,if_false,Sem.run_pure,hb]
  ·cases h
 ·rename_i e0 e l tg ht hl
  split at h
  ·rename_i hc
   obtain ⟨rfl,hag⟩:=hc
   split at h
   ·rename_i i j hi' hj'
    simp only [Option.some.injEq,Prod.mk.injEq] at h
    obtain ⟨hgc,rfl⟩:=h
    rw [hg] at hgc
    obtain ⟨h0,h1,h2⟩:=Z78 hgc
    have hr:Rp w G.F G.St G.Al (.slice e0) tg (Z02 (a.eval x)) l []:=(Z1r I hl).1
    have hsh:Z0f false (a.eval x):=(Z1r I hl).2
    obtain ⟨t',ad,cap,rfl,hcs,hlc,hh⟩:=hr
    rw [Z0r hsh] at hcs
    have hv:a.eval x= .slice ad (List.length (α:=El e0) l) cap:=by simpa using hcs
    obtain ⟨et,le,hu,hea,_⟩:=Z12 hT ht hag
    obtain ⟨inf,z,hinf,hsz,_⟩:=(hT et _ _ hea).info
    have hlen:(sub (α:=El e0) l i j).length=j.toNat-i.toNat:=by
     unfold sub;simp;omega
    refine ⟨.slice (if cap=i.toNat then ad else ad.map (·.add (i.toNat * size e0))) (j.toNat-i.toNat) (cap-i.toNat),⟨rfl,(show Rp w G.F G.St G.Al (.slice e0) [t'] _ (sub (α:=El e0) l i j) [] from ?_)⟩,λw2=> ?_⟩
    ·rw [Z0r rfl]
     rw [<-hlen]
     refine ⟨t',_,_,rfl,rfl,by rw [hlen];omega,?_⟩
     have hown:t'.own=false:=by exact Z8t (σ:=σ) hl t' (by simp)
     refine .inr (.inr ⟨hown,rfl,?_⟩)
     rcases hh with ⟨ho,_⟩ | ⟨ho,_⟩ | ⟨_,_,hx⟩
     ·rw [hown] at ho;cases ho
     ·rw [hown] at ho;cases ho
     ·by_cases he:j.toNat-i.toNat=0
      ·left
       exact List.length_eq_zero_iff.1 (by rw [hlen];exact he)
      ·rcases hx with hx | ⟨b,off,rfl,htb,hF,hel⟩
       ·rw [hx] at h2;simp at h2;omega
       ·right
        have hci:¬ cap=i.toNat:=by omega
        refine ⟨b,off+i.toNat * size e0,by rw [if_neg hci];simp [Z5m],htb,?_,λk hk=> ?_⟩
        ·rw [hlen]
         have:i.toNat * size e0+(j.toNat-i.toNat) * size e0<=List.length (α:=El e0) l * size e0:=by
          rw [<-Nat.add_mul];exact Nat.mul_le_mul_right _ (by omega)
         omega
        ·rw [hlen] at hk
         obtain ⟨cs',hc',hr'⟩:=hel (i.toNat+k) (by omega)
         refine ⟨cs',?_,?_⟩
         ·rw [Nat.add_mul] at hc'
          rw [Nat.add_assoc];exact hc'
         ·have:List.get (α:=El e0) (sub (α:=El e0) l i j) ⟨k,by rw [hlen];exact hk⟩=List.get (α:=El e0) l ⟨i.toNat+k,by omega⟩:=by
           unfold sub
           simp
          rw [this]
          exact hr'
    ·rw [Z03 ho]
     have hb:=Z6d (P:=P) (b:=true) (cap:=cap) (Z3Q I hi') (Z3Q I hj') h0 h1 h2 hlc w2
     simp only [execOp,hv,Instr.sliceAt,Instr.slice,Sem.run_bind,run_underlying hu,Result.andThen_ok,Option.map_none,Sem.run_pure,hb,sizeOf,typeInfo,run_program,hinf,hsz]
   ·cases h
  ·cases h
 ·cases h
end
end Go.PI
namespace Go.PI
theorem Z2J:(p q:List Step)->Z08 (p++q)=(Z08 p&&Z08 q)
 | [],q=>by simp [Z08]
 | .fst::p,q=>by simp [Z08,Z2J p q]
 | .snd::p,q=>by simp [Z08,Z2J p q]
 | .idx _::p,q=>by simp [Z08]
theorem Z2Q:(n i:Nat)->Z08 (Z0a n i)=true
 | 0,_=>rfl
 | 1,_=>rfl
 | n+2,0=>rfl
 | n+2,i+1=>by simp only [Z0a,Z08];exact Z2Q (n+1) i
theorem Z6n:{p:List Step}->{τ:Ty}->{x:El τ}->{tg:List Tag}->{u:TVal}->Z04 τ x tg p=some u->u.ag=false
 | [],τ,x,tg,u,h=>by cases τ<;>(simp only [Z04,Option.some.injEq] at h;subst h;rfl)
 | .fst::p,.pair a b,x,tg,u,h=>Z6n (p:=p) h
 | .snd::p,.pair a b,x,tg,u,h=>Z6n (p:=p) h
 | .idx i::p,.slice e,x,tg,u,h=>Z6n (p:=p) h
 | .fst::_,.int _,_,_,_,h=>by simp [Z04] at h
 | .fst::_,.bool,_,_,_,h=>by simp [Z04] at h
 | .fst::_,.str,_,_,_,h=>by simp [Z04] at h
 | .fst::_,.unit,_,_,_,h=>by simp [Z04] at h
 | .fst::_,.slice _,_,_,_,h=>by simp [Z04] at h
 | .snd::_,.int _,_,_,_,h=>by simp [Z04] at h
 | .snd::_,.bool,_,_,_,h=>by simp [Z04] at h
 | .snd::_,.str,_,_,_,h=>by simp [Z04] at h
 | .snd::_,.unit,_,_,_,h=>by simp [Z04] at h
 | .snd::_,.slice _,_,_,_,h=>by simp [Z04] at h
 | .idx _::_,.int _,_,_,_,h=>by simp [Z04] at h
 | .idx _::_,.bool,_,_,_,h=>by simp [Z04] at h
 | .idx _::_,.str,_,_,_,h=>by simp [Z04] at h
 | .idx _::_,.unit,_,_,_,h=>by simp [Z04] at h
 | .idx _::_,.pair _ _,_,_,_,h=>by simp [Z04] at h
theorem Z3J {τ:Ty} {x:El τ} {tg:List Tag}:Z04 τ x tg []=some ⟨τ,false,x,tg⟩:=by cases τ<;>rfl
theorem Z33:{p q:List Step}->{τ:Ty}->{x:El τ}->{tg:List Tag}->{u:TVal}->Z04 τ x tg p=some u->Z04 τ x tg (p++q)=Z04 u.τ u.x u.tg q
 | [],q,τ,x,tg,u,h=>by rw [Z3J] at h;cases h;rfl
 | .fst::p,q,.pair a b,x,tg,u,h=>Z33 (p:=p) h
 | .snd::p,q,.pair a b,x,tg,u,h=>Z33 (p:=p) h
 | .idx i::p,q,.slice e,x,tg,u,h=>Z33 (p:=p) h
 | .fst::_,_,.int _,_,_,_,h=>by simp [Z04] at h
 | .fst::_,_,.bool,_,_,_,h=>by simp [Z04] at h
 | .fst::_,_,.str,_,_,_,h=>by simp [Z04] at h
 | .fst::_,_,.unit,_,_,_,h=>by simp [Z04] at h
 | .fst::_,_,.slice _,_,_,_,h=>by simp [Z04] at h
 | .snd::_,_,.int _,_,_,_,h=>by simp [Z04] at h
 | .snd::_,_,.bool,_,_,_,h=>by simp [Z04] at h
 | .snd::_,_,.str,_,_,_,h=>by simp [Z04] at h
 | .snd::_,_,.unit,_,_,_,h=>by simp [Z04] at h
 | .snd::_,_,.slice _,_,_,_,h=>by simp [Z04] at h
 | .idx _::_,_,.int _,_,_,_,h=>by simp [Z04] at h
 | .idx _::_,_,.bool,_,_,_,h=>by simp [Z04] at h
 | .idx _::_,_,.str,_,_,_,h=>by simp [Z04] at h
 | .idx _::_,_,.unit,_,_,_,h=>by simp [Z04] at h
 | .idx _::_,_,.pair _ _,_,_,_,h=>by simp [Z04] at h
theorem Z36 {w:World}:{p q:List Step}->{τ:Ty}->{cs cs':List Value}->{base base':Option (Nat×Nat)}->{x:El τ}->{tg:List Tag}->{u:TVal} ->
  Z00 w τ cs base p=some (cs',base')->Z04 τ x tg p=some u->Z00 w τ cs base (p++q)=Z00 w u.τ cs' base' q
 | [],q,τ,cs,cs',base,base',x,tg,u,hl,hg=>by
  rw [Z3J] at hg;cases hg
  rw [Z0Q] at hl;cases hl;rfl
 | .fst::p,q,.pair a b,cs,cs',base,base',x,tg,u,hl,hg=>Z36 (p:=p) (τ:=a) hl hg
 | .snd::p,q,.pair a b,cs,cs',base,base',x,tg,u,hl,hg=>Z36 (p:=p) (τ:=b) hl hg
 | .idx i::p,q,.slice e,cs,cs',base,base',x,tg,u,hl,hg=>by
  simp only [List.cons_append,Z00] at hl ⊢
  split at hl
  ·rename_i b o len cap
   split at hl
   ·rename_i hi
    split at hl
    ·rename_i cse hce
     simp only [hi,if_true]
     exact Z36 (p:=p) hl hg
    ·cases hl
   ·cases hl
  ·cases hl
 | .fst::_,_,.int _,_,_,_,_,_,_,_,_,h=>by simp [Z04] at h
 | .fst::_,_,.bool,_,_,_,_,_,_,_,_,h=>by simp [Z04] at h
 | .fst::_,_,.str,_,_,_,_,_,_,_,_,h=>by simp [Z04] at h
 | .fst::_,_,.unit,_,_,_,_,_,_,_,_,h=>by simp [Z04] at h
 | .fst::_,_,.slice _,_,_,_,_,_,_,_,_,h=>by simp [Z04] at h
 | .snd::_,_,.int _,_,_,_,_,_,_,_,_,h=>by simp [Z04] at h
 | .snd::_,_,.bool,_,_,_,_,_,_,_,_,h=>by simp [Z04] at h
 | .snd::_,_,.str,_,_,_,_,_,_,_,_,h=>by simp [Z04] at h
 | .snd::_,_,.unit,_,_,_,_,_,_,_,_,h=>by simp [Z04] at h
 | .snd::_,_,.slice _,_,_,_,_,_,_,_,_,h=>by simp [Z04] at h
 | .idx _::_,_,.int _,_,_,_,_,_,_,_,_,h=>by simp [Z04] at h
 | .idx _::_,_,.bool,_,_,_,_,_,_,_,_,h=>by simp [Z04] at h
 | .idx _::_,_,.str,_,_,_,_,_,_,_,_,h=>by simp [Z04] at h
 | .idx _::_,_,.unit,_,_,_,_,_,_,_,_,h=>by simp [Z04] at h
 | .idx _::_,_,.pair _ _,_,_,_,_,_,_,_,_,h=>by simp [Z04] at h
theorem Z4b:{p:List Step}->{τ τ1:Ty}->Z0d τ p=some τ1->∀ q,Z0d τ (p++q)=Z0d τ1 q
 | [],τ,τ1,h,q=>by rw [Z1H] at h;cases h;rfl
 | .fst::p,.pair a b,τ1,h,q=>Z4b (p:=p) (τ:=a) h q
 | .snd::p,.pair a b,τ1,h,q=>Z4b (p:=p) (τ:=b) h q
 | .idx _::_,.pair _ _,_,h,q=>by simp [Z0d] at h
 | s::_,.int _,_,h,q=>by cases s<;>simp [Z0d] at h
 | s::_,.bool,_,h,q=>by cases s<;>simp [Z0d] at h
 | s::_,.str,_,h,q=>by cases s<;>simp [Z0d] at h
 | s::_,.unit,_,h,q=>by cases s<;>simp [Z0d] at h
 | s::_,.slice _,_,h,q=>by cases s<;>simp [Z0d] at h
theorem Z48:{p:List Step}->{τ τ1:Ty}->Z0d τ p=some τ1->∀ q,Z0g τ (p++q)=Z0g τ p+Z0g τ1 q
 | [],τ,τ1,h,q=>by rw [Z1H] at h;cases h;rw [Z4E];simp
 | .fst::p,.pair a b,τ1,h,q=>Z48 (p:=p) (τ:=a) h q
 | .snd::p,.pair a b,τ1,h,q=>by
  have:=Z48 (p:=p) (τ:=b) h q
  simp only [List.cons_append,Z0g,this,Nat.add_assoc]
 | .idx _::_,.pair _ _,_,h,q=>by simp [Z0d] at h
 | s::_,.int _,_,h,q=>by cases s<;>simp [Z0d] at h
 | s::_,.bool,_,h,q=>by cases s<;>simp [Z0d] at h
 | s::_,.str,_,h,q=>by cases s<;>simp [Z0d] at h
 | s::_,.unit,_,h,q=>by cases s<;>simp [Z0d] at h
 | s::_,.slice _,_,h,q=>by cases s<;>simp [Z0d] at h
theorem Z75 {w:World} {b o n i m:Nat} {cs:List Value} (h:Z05 w b o n=some cs) (hm:i+m<=n):Z05 w b (o+i) m=some ((cs.drop i).take m):=by
 unfold Z05 at *
 split at h
 ·split at h
  ·cases h
   rw [if_pos (by omega),List.drop_take,List.drop_drop,List.take_take]
   congr 2
   omega
  ·cases h
 ·cases h
theorem Z3d:{q:List Step}->{τ τf:Ty}->{x:El τ}->{tg:List Tag}->Z0d τ q=some τf->∃ u,Z04 τ x tg q=some u/\u.τ=τf
 | [],τ,τf,x,tg,h=>by rw [Z1H] at h;cases h;exact ⟨_,Z3J,rfl⟩
 | .fst::p,.pair a b,τf,x,tg,h=>Z3d (q:=p) (τ:=a) h
 | .snd::p,.pair a b,τf,x,tg,h=>Z3d (q:=p) (τ:=b) h
 | .idx _::_,.int _,_,_,_,h=>by simp [Z0d] at h
 | .idx _::_,.bool,_,_,_,h=>by simp [Z0d] at h
 | .idx _::_,.str,_,_,_,h=>by simp [Z0d] at h
 | .idx _::_,.unit,_,_,_,h=>by simp [Z0d] at h
 | .idx _::_,.slice _,_,_,_,h=>by simp [Z0d] at h
 | .idx _::_,.pair _ _,_,_,_,h=>by simp [Z0d] at h
 | .fst::_,.int _,_,_,_,h=>by simp [Z0d] at h
 | .fst::_,.bool,_,_,_,h=>by simp [Z0d] at h
 | .fst::_,.str,_,_,_,h=>by simp [Z0d] at h
 | .fst::_,.unit,_,_,_,h=>by simp [Z0d] at h
 | .fst::_,.slice _,_,_,_,h=>by simp [Z0d] at h
 | .snd::_,.int _,_,_,_,h=>by simp [Z0d] at h
 | .snd::_,.bool,_,_,_,h=>by simp [Z0d] at h
 | .snd::_,.str,_,_,_,h=>by simp [Z0d] at h
 | .snd::_,.unit,_,_,_,h=>by simp [Z0d] at h
 | .snd::_,.slice _,_,_,_,h=>by simp [Z0d] at h
section
variable {W0:Base} {M:Nat->Prop} {σ:State} {a:Act} {w:World} {G:Ghost} {xs:List Nat} {P:Program} {tys:List (TypeId×Ty×List TypeId)} {o:Oper} {g:Bool} {tv:TV}
theorem Z6N (hT:Z0e P tys) {t:TypeId} {τ:Ty} {l:List TypeId} (h:Z0o tys t=some (τ,l)) (w2:World):(isAgg t).run P w2= .ok (!l.isEmpty) w2:=by
 cases l with
 | cons c l=>
  obtain ⟨fs,hf,_⟩:=(hT t _ _ h).str (by simp)
  simp [isAgg,run_underlying hf]
 | nil=>
  obtain ⟨h1,h2,h3,h4,h5,h6⟩:=(hT t _ _ h).und rfl
  cases τ with
  | int k=>simp [isAgg,run_underlying (h1 k rfl)]
  | bool=>simp [isAgg,run_underlying (h2 rfl)]
  | str=>simp [isAgg,run_underlying (h3 rfl)]
  | unit=>exact absurd rfl h5
  | slice e=>obtain ⟨et,h7,_⟩:=h4 e rfl;simp [isAgg,run_underlying h7]
  | pair a b=>exact absurd rfl (h6 a b)
theorem Z1N (hT:Z0e P tys) {t:TypeId} {τ:Ty} {i:Nat} {q:List Step} (hq:Z4f tys t i=some q) (ht:Z0z tys t=some τ) :
  ∃ fs f τf lf inf,P.underlying t=some (.struct fs)/\fs[i]? = some f/\f.offset=Z0g τ q/\Z0d τ q=some τf/\Z0o tys f.type=some (τf,lf)/\P.info? f.type=some inf/\inf.size=size τf/\size τf≠0 /\
   Z08 q=true/\Z2y tys t i= !lf.isEmpty:=by
 obtain ⟨l,hta,hag⟩:=Z0S ht
 unfold Z4f at hq
 rw [hta] at hq
 simp only [] at hq
 split at hq
 ·rename_i hi
  cases hq
  have hl:l≠[]:=by rintro rfl;simp at hi
  obtain ⟨fs,hu,hlen,hf,_⟩:=(hT t _ _ hta).str hl
  obtain ⟨f,τf,lf,h1,h2,h3,h4,h5,h6,_⟩:=(hf i hi).out
  obtain ⟨inf,z,h7,h8,_⟩:=(hT _ _ _ h5).info
  refine ⟨fs,f,τf,lf,inf,hu,h1,h3,h4,h5,h7,h8,h6,Z2Q _ _,?_⟩
  unfold Z2y
  rw [hta]
  simp only []
  rw [<-h2]
  simp [Z0p,h5]
 ·cases hq
theorem Z0C.ext {p:Place} {u:TVal} {cs cs':List Value} {base base':Option (Nat×Nat)} {q:List Step} (hg:σ.getAt p=some u) (h:Z0C σ G a w p cs base)
  (hl:Z00 w u.τ cs base q=some (cs',base')):Z0C σ G a w { p with path:=p.path++q } cs' base':=by
 obtain ⟨c,hc,hgp⟩:=Z0D hg
 obtain ⟨τ,l,b,hct,hr,hlp⟩:=h
 have:τ=c.τ:=by rw [State.ct,hc] at hct;simpa using hct.symm
 subst this
 refine ⟨c.τ,l,b,hct,hr,?_⟩
 rw [Z36 hlp hgp]
 exact hl
theorem Z9W {p:Place} {u:TVal} {q:List Step} (hg:σ.getAt p=some u):σ.getAt { p with path:=p.path++q }=Z04 u.τ u.x u.tg q:=by
 obtain ⟨c,hc,hgp⟩:=Z0D hg
 show ((σ.content p).bind λv=>Z04 v.τ v.x v.tg (p.path++q))=_
 rw [hc]
 exact Z33 hgp
theorem Z38 (hT:Z0e P tys) {t:TypeId} {τ:Ty} {i:Nat} {q:List Step} (hq:Z4f tys t i=some q) (ht:Z0z tys t=some τ) (b o:Nat) (w2:World) :
  (Instr.fieldAt t (.pointer (some ⟨b,o,none⟩)) i).run P w2= .ok (.pointer (some ⟨b,o+Z0g τ q,none⟩)) w2:=by
 obtain ⟨fs,f,τf,lf,inf,hu,hf,hoff,_,_,hinf,hsz,hne,_⟩:=Z1N hT hq ht
 have:¬ (inf.size=0):=by rw [hsz];exact hne
 simp [Instr.fieldAt,run_underlying hu,hf,Instr.sureAddr,fieldPlace,sizeOf,typeInfo,hinf,this,Z5m,hoff]
theorem Z50:{q:List Step}->{τ:Ty}->{x:El τ}->{tg:List Tag}->{u:TVal}->Z04 τ x tg q=some u->Z08 q=true->∀ t∈u.tg,t∈tg
 | [],τ,x,tg,u,h,_=>by rw [Z3J] at h;cases h;exact λt ht=>ht
 | .fst::p,.pair a b,x,tg,u,h,hf=>λt ht=>List.mem_of_mem_take (Z50 (q:=p) (τ:=a) h hf t ht)
 | .snd::p,.pair a b,x,tg,u,h,hf=>λt ht=>List.mem_of_mem_drop (Z50 (q:=p) (τ:=b) h hf t ht)
 | .idx _::_,_,_,_,_,_,hf=>by simp [Z08] at hf
 | .fst::_,.int _,_,_,_,h,_=>by simp [Z04] at h
 | .fst::_,.bool,_,_,_,h,_=>by simp [Z04] at h
 | .fst::_,.str,_,_,_,h,_=>by simp [Z04] at h
 | .fst::_,.unit,_,_,_,h,_=>by simp [Z04] at h
 | .fst::_,.slice _,_,_,_,h,_=>by simp [Z04] at h
 | .snd::_,.int _,_,_,_,h,_=>by simp [Z04] at h
 | .snd::_,.bool,_,_,_,h,_=>by simp [Z04] at h
 | .snd::_,.str,_,_,_,h,_=>by simp [Z04] at h
 | .snd::_,.unit,_,_,_,h,_=>by simp [Z04] at h
 | .snd::_,.slice _,_,_,_,h,_=>by simp [Z04] at h
theorem Z2X (hT:Z0e P tys) (I:Inv W0 M σ a w G xs) {t:TypeId} {x:Operand} {i:Nat} (ho:o.op= .fieldAddr t x i) (h:Z0l tys σ o.op=some (g,tv)):Z0P P σ a w G o tv:=by
 rw [ho] at h
 simp only [Z0l] at h
 have hp:=Z0w I x
 split at h
 ·rename_i q p hq hpk
  rw [hpk] at hp
  obtain ⟨_,hbx,hfl,hpr⟩:=hp (by simp)
  split at h
  ·rename_i u hu
   split at h
   ·rename_i ht
    simp only [Option.some.injEq,Prod.mk.injEq] at h
    obtain ⟨rfl,rfl⟩:=h
    obtain ⟨cs,b,hpl,hv⟩:=hpr.some hu
    obtain ⟨fs,f,τf,lf,inf,hund,hf,hoff,hat,_,hinf,hsz,hne,hqf,_⟩:=Z1N hT hq ht
    obtain ⟨hlc,hle⟩:=Z0V (w:=w) (cs:=cs) (base:=some b) hat (Z1M I hu hpl).1
    refine ⟨.pointer (some ⟨b.1,b.2+Z0g u.τ q,none⟩),⟨rfl,hbx,by simp only [Z2J,hfl,hqf,Bool.and_self],.inr ⟨_,_,hpl.ext hu hlc,rfl⟩⟩,λw2=> ?_⟩
    rw [Z03 ho]
    simp only [execOp,hv,Sem.run_bind,Z38 hT hq ht,Result.andThen_ok,Sem.run_pure]
   ·cases h
  ·cases h
 ·rename_i q p hq hpk
  rw [hpk] at hp
  obtain ⟨_,hpr⟩:=hp (by simp)
  split at h
  ·rename_i u hu
   split at h
   ·rename_i ht
    simp only [Option.some.injEq,Prod.mk.injEq] at h
    obtain ⟨rfl,rfl⟩:=h
    obtain ⟨cs,b,hpl,hv⟩:=hpr.some hu
    obtain ⟨fs,f,τf,lf,inf,hund,hf,hoff,hat,_,hinf,hsz,hne,hqf,_⟩:=Z1N hT hq ht
    obtain ⟨hlc,hle⟩:=Z0V (w:=w) (cs:=cs) (base:=some b) hat (Z1M I hu hpl).1
    refine ⟨.pointer (some ⟨b.1,b.2+Z0g u.τ q,none⟩),⟨rfl,.inr ⟨_,_,hpl.ext hu hlc,rfl⟩⟩,λw2=> ?_⟩
    rw [Z03 ho]
    simp only [execOp,hv,Sem.run_bind,Z38 hT hq ht,Result.andThen_ok,Sem.run_pure]
   ·cases h
  ·cases h
 ·rename_i q v tg hq hpk
  rw [hpk] at hp
  obtain ⟨_,hto,b,off,cs,hv,hcell,htb,hF,hN,hr⟩:=hp (by simp)
  split at h
  ·rename_i ht
   obtain ⟨u,hgu,he⟩:=Option.map_eq_some_iff.1 h
   simp only [Prod.mk.injEq] at he
   obtain ⟨rfl,rfl⟩:=he
   obtain ⟨fs,f,τf,lf,inf,hund,hf,hoff,hat,_,hinf,hsz,hne,hqf,_⟩:=Z1N hT hq ht
   obtain ⟨hlc,hle⟩:=Z0V (w:=w) (cs:=cs) (base:=(none:Option (Nat×Nat))) hat hr.len.1
   obtain ⟨u',hu',hut⟩:=Z3d (x:=v.x) (tg:=v.tg) hat
   rw [hgu] at hu'
   cases hu'
   obtain ⟨fp',hru,hfp⟩:=hr.get hlc hgu
   have hfp':fp'=[]:=by cases fp' with | nil=>rfl | cons c l=>exact absurd (hfp c (by simp)) (by simp)
   subst hfp'
   refine ⟨.pointer (some ⟨b,off+Z0g v.τ q,none⟩),⟨rfl,hto,b,off+Z0g v.τ q,_,rfl,?_,htb,by rw [hut];omega,λhn=> ?_,hru⟩,λw2=> ?_⟩
   ·rw [hut];exact Z32 hcell hle
   ·have:=hN hn
    intro t' ht'
    exact this t' (Z50 hgu hqf t' ht')
   ·rw [Z03 ho]
    simp only [execOp,hv,Sem.run_bind,Z38 hT hq ht,Result.andThen_ok,Sem.run_pure]
  ·cases h
 ·rename_i q r τr p hq hpk
  rw [hpk] at hp
  obtain ⟨_,hfl,b,off,τ2,hv,hat,hlr,hcell,hSt,hF⟩:=hp (by simp)
  split at h
  ·rename_i ht
   simp only [Option.some.injEq,Prod.mk.injEq] at h
   obtain ⟨rfl,rfl⟩:=h
   rw [hat] at ht
   obtain ⟨fs,f,τf,lf,inf,hund,hf,hoff,hat2,_,hinf,hsz,hne,hqf,_⟩:=Z1N hT hq ht
   have hlen2:=Z1E hcell
   obtain ⟨_,hle⟩:=Z0V (w:=w) (cs:=((Z02 (a.tmps.getD r undef)).drop (Z0g τr p)).take (size τ2)) (base:=none) hat2 hlen2
   refine ⟨.pointer (some ⟨b,off+Z0g τ2 q,none⟩),⟨rfl,by simp only [Z2J,hfl,hqf,Bool.and_self],b,off+Z0g τ2 q,τf,rfl,(Z4b hat q).trans hat2,hlr,?_,hSt,by omega⟩,λw2=> ?_⟩
   ·rw [Z75 hcell hle,Z48 hat q,List.drop_take,List.take_take,List.drop_drop]
    congr 2
    omega
   ·rw [Z03 ho]
    simp only [execOp,hv,Sem.run_bind,Z38 hT hq ht,Result.andThen_ok,Sem.run_pure]
  ·cases h
 ·cases h
end
end Go.PI
namespace Go.PI
theorem Z4P (cs:Array Value) (i n:Nat):(cs.extract i (i+n)).toList=(cs.toList.drop i).take n:=by
 simp [Array.toList_extract,List.extract_eq_take_drop]
section
variable {W0:Base} {M:Nat->Prop} {σ:State} {a:Act} {w:World} {G:Ghost} {xs:List Nat} {P:Program} {tys:List (TypeId×Ty×List TypeId)} {o:Oper} {g:Bool} {tv:TV}
theorem Z1U (hT:Z0e P tys) {t:TypeId} {τ:Ty} (h:Z0o tys t=some (τ,[])):size τ=1:=by
 obtain ⟨_,_,_,_,h5,h6⟩:=(hT t _ _ h).und rfl
 cases τ<;>first | rfl | (exact absurd rfl h5) | (exact absurd rfl (h6 _ _))
theorem Z2V (hT:Z0e P tys) {t:TypeId} {τ:Ty} {l:List TypeId} (h:Z0o tys t=some (τ,l)) {cs:Array Value} {off:Nat} (hl:off+size τ<=cs.size) (w2:World) :
  (part t cs off).run P w2= .ok (Z0L (!l.isEmpty) ((cs.toList.drop off).take (size τ))) w2:=by
 obtain ⟨inf,z,hi,hs,_⟩:=(hT t _ _ h).info
 cases l with
 | cons c l=>
  simp only [part,Sem.run_bind,Z6N hT h,Result.andThen_ok,List.isEmpty_cons,Bool.not_false,if_true,sizeOf,typeInfo,run_program,hi,Sem.run_pure,hs,Z0L]
  congr 2
  rw [<-Array.toList_inj]
  simp [Z4P]
 | nil=>
  have h1:=Z1U hT h
  simp only [part,Sem.run_bind,Z6N hT h,Result.andThen_ok,List.isEmpty_nil,Bool.not_true,Bool.false_eq_true,if_false,Z0L]
  have:off<cs.size:=by omega
  rw [Array.getElem?_eq_getElem this]
  simp only [Sem.run_pure]
  congr 1
  rw [h1]
  have h2:off<cs.toList.length:=by simpa using this
  rw [List.drop_eq_getElem_cons h2]
  simp
theorem Z6e (hT:Z0e P tys) (I:Inv W0 M σ a w G xs) {t:TypeId} {x:Operand} {i:Nat} (ho:o.op= .field t x i) (h:Z0l tys σ o.op=some (g,tv)):Z0P P σ a w G o tv:=by
 rw [ho] at h
 simp only [Z0l] at h
 have hp:=Z0w I x
 split at h
 ·rename_i q p hq hpk
  rw [hpk] at hp
  obtain ⟨_,hpl⟩:=hp (by simp)
  split at h
  ·rename_i u hu
   split at h
   ·rename_i ht
    obtain ⟨tv',hrt,he⟩:=Option.map_eq_some_iff.1 h
    simp only [Prod.mk.injEq] at he
    obtain ⟨rfl,rfl⟩:=he
    have hpl:∃ cs base,Z0C σ G a w p cs base/\Z02 (a.eval x)=cs/\Z0f true (a.eval x):=by
     rcases hpl with hn | hpl
     ·obtain ⟨c,hc,_⟩:=Z0D hu
      rw [State.ct,hc] at hn;cases hn
     ·exact hpl
    obtain ⟨cs,base,hpl,hvc,arr,hv⟩:=hpl
    obtain ⟨fs,f,τf,lf,inf,hund,hf,hoff,hat,hfa,hinf,hsz,hne,hqf,hfag⟩:=Z1N hT hq ht
    obtain ⟨hlen,hone⟩:=Z1M I hu hpl
    obtain ⟨hlc,hle⟩:=Z0V (w:=w) (cs:=cs) (base:=base) hat hlen
    have hcs:cs=arr.toList:=by rw [<-hvc,hv];simp [Z02,Value.cells]
    have hasz:arr.size=size u.τ:=by rw [<-hlen,hcs];simp
    have hgo:=Z1i (ag:=Z2y tys t i) (cs:=(cs.drop (Z0g u.τ q)).take (size τf)) (λc hc=>hone c (List.mem_of_mem_drop (List.mem_of_mem_take hc))) (λhf=>by
     rw [hfag] at hf
     have hl:lf=[]:=by simpa using hf
     subst hl
     have:=Z1U hT hfa
     simp;omega)
    refine ⟨Z0L (Z2y tys t i) ((cs.drop (Z0g u.τ q)).take (size τf)),Z2A I hrt (hpl.ext hu hlc) hgo.1 hgo.2,λw2=> ?_⟩
    rw [Z03 ho]
    simp only [execOp,hv,Instr.field,Sem.run_bind,run_underlying hund,hf,asAgg,Sem.run_pure,Result.andThen_ok,hoff,Z2V hT hfa (cs:=arr) (off:=Z0g u.τ q) (by omega) w2,hfag,hcs]
   ·cases h
  ·cases h
 ·rename_i q τ y tg hq hpk
  rw [hpk] at hp
  obtain ⟨⟨arr,hv⟩,hr⟩:=hp (by simp)
  split at h
  ·rename_i ht
   obtain ⟨u,hgu,he⟩:=Option.map_eq_some_iff.1 h
   simp only [Prod.mk.injEq] at he
   obtain ⟨rfl,rfl⟩:=he
   obtain ⟨fs,f,τf,lf,inf,hund,hf,hoff,hat,hfa,hinf,hsz,hne,hqf,hfag⟩:=Z1N hT hq ht
   have hcs:Z02 (a.eval x)=arr.toList:=by rw [hv];simp [Z02,Value.cells]
   rw [hcs] at hr
   obtain ⟨hlc,hle⟩:=Z0V (w:=w) (cs:=arr.toList) (base:=(none:Option (Nat×Nat))) hat hr.len.1
   obtain ⟨u',hu',hut⟩:=Z3d (x:=y) (tg:=tg) hat
   rw [hgu] at hu'
   cases hu'
   obtain ⟨fp',hru,hfp⟩:=hr.get hlc hgu
   have hfp':fp'=[]:=by cases fp' with | nil=>rfl | cons c l=>exact absurd (hfp c (by simp)) (by simp)
   subst hfp'
   have hasz:arr.size=size τ:=by have:=hr.len.1;simpa using this
   have hgo:=Z1i (ag:=Z2y tys t i) (cs:=(arr.toList.drop (Z0g τ q)).take (size τf)) hru.ones (λhf=>by
     rw [hfag] at hf
     have hl:lf=[]:=by simpa using hf
     subst hl
     have:=Z1U hT hfa
     simp;omega)
   refine ⟨Z0L (Z2y tys t i) ((arr.toList.drop (Z0g τ q)).take (size τf)),⟨hgo.2,by rw [hgo.1];exact hru⟩,λw2=> ?_⟩
   rw [Z03 ho]
   simp only [execOp,hv,Instr.field,Sem.run_bind,run_underlying hund,hf,asAgg,Sem.run_pure,Result.andThen_ok,hoff,Z2V hT hfa (cs:=arr) (off:=Z0g τ q) (by omega) w2,hfag]
  ·cases h
 ·cases h
theorem Z5D (hT:Z0e P tys) {t:TypeId} {e:Ty} (ht:Z0z tys t=some (.slice e)) (hag:Z0p tys t=false) {b off len cap:Nat} {k:IntKind} {n:Int} (h:inb n len=true) (w2:World) :
  (Instr.indexAt t (.slice (some ⟨b,off,none⟩) len cap) (.int k n)).run P w2= .ok (.pointer (some ⟨b,off+n.toNat * size e,none⟩)) w2:=by
 obtain ⟨et,le,hu,hea,_⟩:=Z12 hT ht hag
 obtain ⟨inf,z,hinf,hsz,_⟩:=(hT et _ _ hea).info
 simp only [Instr.indexAt,asIntOf,Sem.run_bind,Sem.run_pure,Result.andThen_ok,run_underlying hu,if_pos (Z5p h),sizeOf,typeInfo,run_program,hinf,hsz,Z5m]
theorem Z2Y (hT:Z0e P tys) (I:Inv W0 M σ a w G xs) {t:TypeId} {x i:Operand} (ho:o.op= .indexAddr t x i) (h:Z0l tys σ o.op=some (g,tv)) (hg:g=true):Z0P P σ a w G o tv:=by
 rw [ho] at h
 simp only [Z0l] at h
 have hp:=Z0w I x
 split at h
 ·rename_i e' p nv ht hpk hli
  rw [hpk] at hp
  obtain ⟨_,hpl⟩:=hp (by simp)
  split at h
  ·rename_i e ag' l tg n hu hn
   split at h
   ·rename_i hc
    obtain ⟨rfl,hag⟩:=hc
    simp only [Option.some.injEq,Prod.mk.injEq] at h
    obtain ⟨hgi,rfl⟩:=h
    rw [hg] at hgi
    obtain ⟨h0,h1⟩:=Z5p hgi
    have hpl:∃ cs base,Z0C σ G a w p cs base/\Z02 (a.eval x)=cs/\Z0f false (a.eval x):=by
     rcases hpl with hn | hpl
     ·obtain ⟨c,hc,_⟩:=Z0D hu
      rw [State.ct,hc] at hn;cases hn
     ·exact hpl
    obtain ⟨cs,base,hpl,hvc,hsh⟩:=hpl
    obtain ⟨fp,hr⟩:=Z2v I hu hpl
    have hr:Rp w G.F G.St G.Al (.slice e') tg cs l fp:=hr
    obtain ⟨t',ad,cap,rfl,hcs,hlc,hh⟩:=hr
    have hv:a.eval x= .slice ad (List.length (α:=El e') l) cap:=by
     rw [Z0r hsh] at hvc
     rw [hcs] at hvc
     simpa using hvc
    obtain ⟨k,hk⟩:=Z3P I hli hn
    have hnl:n.toNat<List.length (α:=El e') l:=by omega
    have hex:∃ b off,ad=some ⟨b,off,none⟩/\∃ cs',Z05 w b (off+n.toNat * size e') (size e')=some cs':=by
     rcases hh with ⟨_,_,hx,_⟩ | ⟨_,b,off,fps,rfl,_,_,_,_,_,hel⟩ | ⟨_,_,hx⟩
     ·rw [hx] at hnl;simp at hnl
     ·obtain ⟨cs',hc',_⟩:=hel n.toNat hnl
      exact ⟨b,off,rfl,cs',hc'⟩
     ·rcases hx with hx | ⟨b,off,rfl,_,_,hel⟩
      ·rw [hx] at hnl;simp at hnl
      ·obtain ⟨cs',hc',_⟩:=hel n.toNat hnl
       exact ⟨b,off,rfl,cs',hc'⟩
    obtain ⟨b,off,rfl,cs',hc'⟩:=hex
    refine ⟨.pointer (some ⟨b,off+n.toNat * size e',none⟩),⟨rfl,.inr ⟨cs',(b,off+n.toNat * size e'),hpl.ext hu ?_,rfl⟩⟩,λw2=> ?_⟩
    ·rw [hcs]
     simp only [Z00,hnl,if_true,hc',Z0Q]
    ·rw [Z03 ho]
     simp only [execOp,hv,hk,Sem.run_bind,Z5D hT ht hag hgi,Result.andThen_ok,Sem.run_pure]
   ·cases h
  ·cases h
 ·rename_i e' e l tg nv ht hpk hli
  rw [hpk] at hp
  split at h
  ·rename_i n hn
   split at h
   ·rename_i hc
    obtain ⟨rfl,hag⟩:=hc
    simp only [Option.some.injEq,Prod.mk.injEq] at h
    obtain ⟨hgi,rfl⟩:=h
    rw [hg] at hgi
    obtain ⟨h0,h1⟩:=Z5p hgi
    obtain ⟨hsh,hr⟩:=hp (by simp)
    have hr:Rp w G.F G.St G.Al (.slice e') tg (Z02 (a.eval x)) l []:=hr
    obtain ⟨t',ad,cap,rfl,hcs,hlc,hh⟩:=hr
    have hv:a.eval x= .slice ad (List.length (α:=El e') l) cap:=by
     have hsh:Z0f false (a.eval x):=hsh
     rw [Z0r hsh] at hcs
     simpa using hcs
    obtain ⟨k,hk⟩:=Z3P I hli hn
    have hnl:n.toNat<List.length (α:=El e') l:=by omega
    rcases hh with ⟨_,_,hx,_⟩ | ⟨_,b,off,fps,_,_,hx,_⟩ | ⟨hown,_,hx⟩
    ·rw [hx] at hnl;simp at hnl
    ·cases hx
    ·rcases hx with hx | ⟨b,off,rfl,htb,hF,hel⟩
     ·rw [hx] at hnl;simp at hnl
     ·obtain ⟨cs',hc',hrl⟩:=hel n.toNat hnl
      refine ⟨.pointer (some ⟨b,off+n.toNat * size e',none⟩),⟨rfl,hown,b,off+n.toNat * size e',cs',rfl,hc',htb,?_,?_,?_⟩,λw2=> ?_⟩
      ·have:(n.toNat+1) * size e'<=List.length (α:=El e') l * size e':=Nat.mul_le_mul_right _ hnl
       rw [Nat.add_mul,Nat.one_mul] at this
       show off+n.toNat * size e'+size e'<=_
       omega
      ·intro hN t2 ht2
       obtain ⟨_,rfl⟩:=List.mem_replicate.1 ht2
       simp only [List.headD_cons] at hN ⊢
       cases t'<;>simp_all [Tag.isN,Tag.inner,Tag.own]
      ·have:List.getD (α:=El e') l n.toNat (zero e')=List.get (α:=El e') l ⟨n.toNat,hnl⟩:=Z4g _ _ _ _
       show Rp w G.F G.St G.Al e' _ cs' (List.getD (α:=El e') l n.toNat (zero e')) []
       rw [this]
       exact hrl
      ·rw [Z03 ho]
       simp only [execOp,hv,hk,Sem.run_bind,Z5D hT ht hag hgi,Result.andThen_ok,Sem.run_pure]
   ·cases h
  ·cases h
 ·cases h
theorem Z6f (hT:Z0e P tys) (I:Inv W0 M σ a w G xs) {t:TypeId} {x i:Operand} (ho:o.op= .index t x i) (h:Z0l tys σ o.op=some (g,tv)) (hg:g=true):Z0P P σ a w G o tv:=by
 rw [ho] at h
 simp only [Z0l] at h
 split at h
 ·rename_i s tg nv ht hl hli
  split at h
  ·rename_i n hn
   split at h
   ·cases h
   rename_i hag
   simp only [Option.some.injEq,Prod.mk.injEq] at h
   obtain ⟨hgi,rfl⟩:=h
   rw [hg] at hgi
   obtain ⟨h0,h1⟩:=Z5p hgi
   obtain ⟨k,hk⟩:=Z3P I hli hn
   have hv:=Z27 I hl
   refine ⟨.int .u8 (bt s n),Z0B rfl ⟨rfl,rfl,rfl⟩,λw2=> ?_⟩
   rw [Z03 ho]
   have hlt:n.toNat<s.size:=by omega
   have hget:s[n.toNat]? = some s[n.toNat]:=by simp [hlt]
   simp only [execOp,hv,hk,Instr.index,asIntOf,Sem.run_bind,Sem.run_pure,Result.andThen_ok,run_underlying (Z1J hT ht (by simpa using hag)),if_pos h0,hget]
   congr 3
   unfold bt
   congr 1
   have:n.toNat<s.data.toList.length:=by simpa using hlt
   rw [Z4g _ _ _ this]
   rfl
  ·cases h
 ·cases h
theorem Z6R:{ags:List Bool}->{τ:Ty}->{vs:List Value}->{i:Nat}->{F:Nat->Nat}->{St Al:Nat->Prop}->{w:World}->{x:El τ}->{tg:List Tag}->{fp:List Nat}->Z1f τ ags vs->i<ags.length ->
  ∃ v,vs[i]? = some v/\Z0f (Z0v false ags i) v/\∃ base',Z00 w τ (vs.flatMap Z02) none (Z0a ags.length i)=some (Z02 v,base')
 | [],τ,vs,i,_,_,_,w,_,_,_,h,hi=>by simp at hi
 | [ag],τ,vs,i,_,_,_,w,_,_,_,h,hi=>by
  have:i=0:=by simpa using hi
  subst this
  match vs,h with
  | [v],h=>
   have h:Z0f ag v/\(Z02 v).length=size τ:=by cases τ<;>exact h
   exact ⟨v,rfl,h.1,none,by simp [Z0a,Z0Q]⟩
  | [],h=>cases τ<;>exact h.elim
  | _::_::_,h=>cases τ<;>exact h.elim
 | ag::ag'::ags,τ,vs,i,F,St,Al,w,x,tg,fp,h,hi=>by
  cases τ with
  | pair a b=>
   cases vs with
   | nil=>exact h.elim
   | cons v vs=>
   obtain ⟨h1,h2,h3⟩:Z0f ag v/\(Z02 v).length=size a/\Z1f b (ag'::ags) vs:=by
    cases vs<;>exact h
   cases i with
   | zero=>
    refine ⟨v,rfl,h1,none,?_⟩
    simp only [List.length_cons,Z0a,Z00,List.flatMap_cons,Z0Q]
    rw [<-h2,List.take_left']
    rfl
   | succ i=>
    obtain ⟨v',h4,h5,base',h6⟩:=Z6R (w:=w) (x:=zero b) (tg:=[]) (fp:=[]) (F:=F) (St:=St) (Al:=Al) h3 (i:=i) (by simpa using hi)
    refine ⟨v',by simpa using h4,h5,base',?_⟩
    simp only [List.length_cons,Z0a,Z00,List.flatMap_cons,Option.map_none]
    rw [<-h2,List.drop_left']
    ·exact h6
    ·rfl
  | _=>exact h.elim
theorem Z1f.ones:{ags:List Bool}->{τ:Ty}->{vs:List Value}->Z1f τ ags vs->∀ v∈vs,Z02 v=v.cells.toList
 | [],τ,vs,h=>by cases τ<;>cases vs<;>exact h.elim
 | [ag],τ,vs,h=>by
  match vs,h with
  | [v],h=>
   have h:Z0f ag v/\(Z02 v).length=size τ:=by cases τ<;>exact h
   intro u hu
   simp only [List.mem_singleton] at hu
   subst hu
   exact h.1.cells
  | [],h=>cases τ<;>exact h.elim
  | _::_::_,h=>cases τ<;>exact h.elim
 | ag::ag'::ags,τ,vs,h=>by
  cases τ with
  | pair a b=>
   cases vs with
   | nil=>exact h.elim
   | cons v vs=>
   obtain ⟨h1,h2,h3⟩:Z0f ag v/\(Z02 v).length=size a/\Z1f b (ag'::ags) vs:=by
    cases vs<;>exact h
   intro u hu
   rcases List.mem_cons.1 hu with rfl | hu
   ·exact h1.cells
   ·exact Z1f.ones h3 u hu
  | _=>exact h.elim
theorem Z0W {i:Nat} (h:σ.slot i≠ .dead):i<σ.slots.length:=by
 rcases Nat.lt_or_ge i σ.slots.length with h1 | h1
 ·exact h1
 ·exact absurd (Z2g (d:=TV.dead) σ.slots i h1) h
theorem Z5g (I:Inv W0 M σ a w G xs) {x:Operand} {i:Nat} (ho:o.op= .extract x i) (h:Z0l tys σ o.op=some (g,tv)):Z0P P σ a w G o tv:=by
 rw [ho] at h
 cases x with
 | tmp t=>
  have main:∀ {t':Nat} {ags:List Bool} {v:TVal},σ.content ⟨false,t',[]⟩=some v->Z09 G a w ⟨false,t',[]⟩=some (Z02 (a.tmps.getD t undef),none)->(∃ vs,a.tmps.getD t undef= .tuple vs/\Z1f v.τ ags vs.toList) ->
    (if i<ags.length then (Z37 σ ⟨false,t',Z0a ags.length i⟩ (Z0v false ags i)).map λtv=>(true,tv) else none)=some (g,tv)->Z0P P σ a w G o tv:=by
   intro t' ags v hcon hroot hs h
   split at h
   ·rename_i hi
    obtain ⟨tv',hrt,he⟩:=Option.map_eq_some_iff.1 h
    simp only [Prod.mk.injEq] at he
    obtain ⟨rfl,rfl⟩:=he
    obtain ⟨vs,hv,hsh⟩:=hs
    obtain ⟨u,h1,h2,base',h3⟩:=Z6R (w:=w) (x:=v.x) (tg:=v.tg) (fp:=[]) (F:=G.F) (St:=G.St) (Al:=G.Al) hsh hi
    have hvc:Z02 (a.tmps.getD t undef)=vs.toList.flatMap Z02:=by
     rw [hv]
     simp only [Z02]
     have:=hsh.ones
     generalize vs.toList=L at this
     induction L with
     | nil=>rfl
     | cons y L ih=>
      simp only [List.flatMap_cons]
      rw [ih (λz hz=>this z (List.mem_cons_of_mem _ hz)),this y (by simp)]
    refine ⟨u,Z2A I hrt (cs:=Z02 u) (base:=base') ⟨v.τ,Z02 (a.tmps.getD t undef),none,?_,hroot,?_⟩ rfl h2,λw2=> ?_⟩
    ·show (σ.content ⟨false,t',[]⟩).map (·.τ)=_
     rw [hcon];rfl
    ·rw [hvc];exact h3
    ·rw [Z03 ho]
     have hev:a.eval (.tmp t)= .tuple vs:=hv
     have h1':vs[i]? = some u:=by rw [<-h1];simp
     simp only [execOp,hev,Instr.extract,h1',Sem.run_bind,Sem.run_pure,Result.andThen_ok]
   ·cases h
  simp only [Z0l] at h
  split at h
  ·rename_i v ags hsl
   have hs:=I.slot t (Z0W (by rw [hsl];simp))
   rw [hsl] at hs
   exact main (v:=v) (by simp [State.content,hsl]) rfl hs.1 h
  ·rename_i t' ags hsl
   have hs:=I.slot t (Z0W (by rw [hsl];simp))
   rw [hsl] at hs
   have hc:∃ v,σ.content ⟨false,t',[]⟩=some v:=by
    split at h
    ·obtain ⟨tv',hrt,_⟩:=Option.map_eq_some_iff.1 h
     unfold Z37 at hrt
     split at hrt
     ·rename_i u hu
      unfold State.getAt at hu
      obtain ⟨v,hv,_⟩:=Option.bind_eq_some_iff.1 hu
      exact ⟨v,hv⟩
     ·cases hrt
    ·cases h
   obtain ⟨v,hv⟩:=hc
   obtain ⟨h1,vs,h2,h3⟩:=hs.2 v.τ (by show (σ.content ⟨false,t',[]⟩).map (·.τ)=_;rw [hv];rfl)
   exact main hv h1 ⟨vs,h2,h3⟩ h
  ·cases h
 | _=>simp [Z0l] at h
theorem Z74 (I:Inv W0 M σ a w G xs):(caps:List Operand)->{l:List Place}->(caps.map σ.peek).foldr (λtv acc=>match tv,acc with | .ptr p,some l=>some (p::l) | _,_=>none) (some [])=some l ->
  caps.length=l.length/\∀ i (h:i<l.length),l[i].box=true/\Z08 l[i].path=true/\Z0x σ G a w l[i] ((caps.map a.eval).getD i undef)
 | [],l,h=>by
  simp only [List.map_nil,List.foldr_nil,Option.some.injEq] at h
  subst h
  exact ⟨rfl,λi hi=>absurd hi (by simp)⟩
 | c::caps,l,h=>by
  simp only [List.map_cons,List.foldr_cons] at h
  split at h
  ·rename_i p l' hpk hrest
   cases h
   obtain ⟨h1,h2⟩:=Z74 I caps hrest
   have hp:=Z0w I c (by rw [hpk];simp)
   rw [hpk] at hp
   refine ⟨by simp [h1],λi hi=> ?_⟩
   cases i with
   | zero=>exact hp.2
   | succ i=>exact h2 i (by simpa using hi)
  ·cases h
theorem Z4N (I:Inv W0 M σ a w G xs) {f:Fn} {first caps:Array Operand} (ho:o.op= .makeFunc f first caps) (h:Z0l tys σ o.op=some (g,tv)):Z0P P σ a w G o tv:=by
 rw [ho] at h
 cases f with
 | func f=>
  simp only [Z0l] at h
  split at h
  ·rename_i hfe
   split at h
   ·rename_i l hl
    simp only [Option.some.injEq,Prod.mk.injEq] at h
    obtain ⟨rfl,rfl⟩:=h
    obtain ⟨h1,h2⟩:=Z74 I _ hl
    have hfirst:first= #[]:=by simpa using hfe
    refine ⟨.func (.func f) #[] (caps.map a.eval),⟨rfl,caps.map a.eval,rfl,by simpa using h1,λi hi=> ?_⟩,λw2=> ?_⟩
    ·have:=h2 i hi
     have heq:(caps.map a.eval).getD i undef=(caps.toList.map a.eval).getD i undef:=by
      rw [<-Array.toList_map,Array.getD_eq_getD_getElem?,List.getD_eq_getElem?_getD,Array.getElem?_toList]
     rw [heq];exact this
    ·rw [Z03 ho]
     simp only [execOp,hfirst,Instr.makeFunc,Sem.run_bind,Sem.run_pure,Result.andThen_ok]
     simp
   ·cases h
  ·cases h
 | _=>simp [Z0l] at h
end
end Go.PI
namespace Go.PI
theorem Z5i {τ τf:Ty} (h:Z0d τ [.fst]=some τf):∃ b,τ= .pair τf b:=by
 cases τ with
 | pair a b=>simp only [Z0d,Option.some.injEq] at h;subst h;exact ⟨b,rfl⟩
 | _=>simp [Z0d] at h
theorem Z90 {τ τf:Ty} {p:List Step} (h:Z0d τ (.snd::p)=some τf):∃ a b,τ= .pair a b/\Z0d b p=some τf:=by
 cases τ with
 | pair a b=>exact ⟨a,b,rfl,by simpa [Z0d] using h⟩
 | _=>simp [Z0d] at h
section
variable {W0:Base} {M:Nat->Prop} {σ:State} {a:Act} {w:World} {G:Ghost} {xs:List Nat} {P:Program} {tys:List (TypeId×Ty×List TypeId)} {o:Oper} {g:Bool} {tv:TV}
variable {F:Nat->Nat} {St Al:Nat->Prop}
theorem Z5V {n:Nat} {t:TypeId} (h:Z43 tys n t=true):∃ m τ l,n=m+1/\Z0o tys t=some (τ,l)/\((l=[]/\((∃ k,τ= .int k)\/τ= .bool\/τ= .str))\/(l≠[]/\∀ x∈l,Z43 tys m x=true)):=by
 cases n with
 | zero=>cases h
 | succ m=>
  simp only [Z43] at h
  split at h
  ·rename_i k ha;exact ⟨m,_,_,rfl,ha,.inl ⟨rfl,.inl ⟨k,rfl⟩⟩⟩
  ·rename_i ha;exact ⟨m,_,_,rfl,ha,.inl ⟨rfl,.inr (.inl rfl)⟩⟩
  ·rename_i ha;exact ⟨m,_,_,rfl,ha,.inl ⟨rfl,.inr (.inr rfl)⟩⟩
  ·rename_i τ b l ha
   simp only [Bool.and_eq_true,List.all_eq_true] at h
   refine ⟨m,_,_,rfl,ha,.inr ⟨by simp,λx hx=> ?_⟩⟩
   rcases List.mem_cons.1 hx with rfl | hx
   ·exact h.1
   ·exact h.2 x hx
  ·cases h
theorem Z5U (hT:Z0e P tys):(n d:Nat)->(t:TypeId)->n<=d->Z43 tys n t=true->P.eqGuardType d t=false
 | 0,d,t,_,h=>by cases h
 | n+1,d,t,hd,h=>by
  obtain ⟨m,τ,l,hm,ha,hk⟩:=Z5V h
  obtain rfl:m=n:=by omega
  obtain ⟨d,rfl⟩:∃ e,d=e+1:=⟨d-1,by omega⟩
  have hF:=hT t τ l ha
  rcases hk with ⟨rfl,hk⟩ | ⟨hl,hk⟩
  ·obtain ⟨u1,u2,u3,_⟩:=hF.und rfl
   rcases hk with ⟨k,rfl⟩ | rfl | rfl
   ·simp only [Program.eqGuardType,u1 k rfl]
   ·simp only [Program.eqGuardType,u2 rfl]
   ·simp only [Program.eqGuardType,u3 rfl]
  ·obtain ⟨fs,hu,hfl,hfs,_⟩:=hF.str hl
   simp only [Program.eqGuardType,hu]
   rw [Array.any_eq_false]
   intro i hi
   obtain ⟨f,τf,lf,h1,h2,_⟩:=(hfs i (by omega)).out
   have hf:fs[i]=f:=by rw [Array.getElem?_eq_getElem hi] at h1;simpa using h1
   rw [hf,h2]
   have hx:Z43 tys m (l.getD i 0)=true:=hk _ (by rw [List.getD_eq_getElem?_getD,List.getElem?_eq_getElem (by omega)];exact List.getElem_mem _)
   rw [Z5U hT m d _ (by omega) hx]
   simp
def EqT (P:Program) (tys:List (TypeId×Ty×List TypeId)) (w:World) (F:Nat->Nat) (St Al:Nat->Prop) (d:Nat) (t:TypeId):Prop:=
 ∀ τ l,Z0o tys t=some (τ,l)->∀ (cs1 cs2:List Value) (x y:El τ) (tg1 tg2:List Tag),Rp w F St Al τ tg1 cs1 x []->Rp w F St Al τ tg2 cs2 y []->∀ b,Z42 τ x y=some b->∀ w2,
  (Op.equalIn d t (Z0L (!l.isEmpty) cs1) (Z0L (!l.isEmpty) cs2)).run P w2= .ok b w2
theorem Z7o {a b:Ty} {tg:List Tag} {cs:List Value} {x:El (.pair a b)} (h:Rp w F St Al (.pair a b) tg cs x []):∃ t1 t2 c1 c2,cs=c1++c2/\Rp w F St Al a t1 c1 x.1 []/\Rp w F St Al b t2 c2 x.2 []:=by
 obtain ⟨t1,t2,c1,c2,f1,f2,_,rfl,hf,h1,h2⟩:=h
 have:=List.append_eq_nil_iff.1 hf.symm
 rw [this.1] at h1
 rw [this.2] at h2
 exact ⟨t1,t2,c1,c2,rfl,h1,h2⟩
theorem Z6F (hT:Z0e P tys) (d:Nat) (cs1 cs2:Array Value) (w2:World):(m:Nat)->(fl:List Field)->(τ:Ty)->(off:Nat)->m≠0->fl.length=m ->
  (∀ i, i < m → ∃ f τf lf, fl[i]? = some f ∧ f.offset = off + Z0g τ (Z0a m i) ∧ Z0d τ (Z0a m i) = some τf ∧ Z0o tys f.type = some (τf, lf) ∧ f.name ≠ "_" ∧ EqT P tys w F St Al d f.type) →
  ∀ (x y:El τ) (tg1 tg2:List Tag),Rp w F St Al τ tg1 (cs1.toList.drop off) x []->Rp w F St Al τ tg2 (cs2.toList.drop off) y []->∀ b,Z42 τ x y=some b->(Op.eqFields d cs1 cs2 fl).run P w2= .ok b w2
 | 0,fl,τ,off,h,_,_,x,y,tg1,tg2,h1,h2,b,hb=>absurd rfl h
 | 1,fl,τ,off,_,hl,hf,x,y,tg1,tg2,h1,h2,b,hb=>by
  obtain ⟨f,τf,lf,g1,g2,g3,g4,g5,g6⟩:=hf 0 (by omega)
  obtain ⟨f',rfl⟩:=List.length_eq_one_iff.1 hl
  simp only [List.getElem?_cons_zero,Option.some.injEq] at g1
  subst g1
  simp only [Z0a,Z1H,Option.some.injEq,Z4E,Nat.add_zero] at g2 g3
  subst g3
  have s1:=h1.len.1
  have s2:=h2.len.1
  simp only [List.length_drop,Array.length_toList] at s1 s2
  have hpos:=(hT _ _ _ g4)
  have e1:=Z2V hT g4 (cs:=cs1) (off:=off)
  have e2:=Z2V hT g4 (cs:=cs2) (off:=off)
  by_cases hz:size τ=0
  ·obtain ⟨i,z,q1,q2,q3,q4,_⟩:=hpos.info
   exfalso
   by_cases hlf:lf=[]
   ·obtain ⟨_,_,_,_,u5,u6⟩:=hpos.und hlf
    cases τ with
    | unit=>exact u5 rfl
    | pair a b=>exact u6 a b rfl
    | _=>simp [size] at hz
   ·obtain ⟨fs,_,_,q5,_⟩:=hpos.str hlf
    obtain ⟨f2,τ2,l2,_,_,_,q6,_,q7,_⟩:=(q5 0 (List.length_pos_iff.2 hlf)).out
    match hn:lf.length with
    | 0=>exact absurd (List.length_eq_zero_iff.1 hn) hlf
    | 1=>
     rw [hn] at q6
     simp only [Z0a,Z1H,Option.some.injEq] at q6
     subst q6
     exact q7 hz
    | n+2=>
     rw [hn] at q6
     simp only [Z0a] at q6
     obtain ⟨b,rfl⟩:=Z5i q6
     simp only [size] at hz
     omega
  ·have e1:=e1 (by omega) w2
   have e2:=e2 (by omega) w2
   rw [List.take_of_length_le (by simp;omega)] at e1 e2
   have e3:=g6 τ lf g4 _ _ x y tg1 tg2 h1 h2 b hb w2
   simp only [Op.eqFields,g5,ne_eq,not_false_eq_true,if_true,Sem.run_bind,g2,e1,e2,e3,Result.andThen_ok]
   cases b<;>simp
 | m+2,fl,τ,off,_,hl,hf,x,y,tg1,tg2,h1,h2,b,hb=>by
  obtain ⟨f,τf,lf,g1,g2,g3,g4,g5,g6⟩:=hf 0 (by omega)
  cases fl with
  | nil=>simp at hl
  | cons f' fl=>
   simp only [List.getElem?_cons_zero,Option.some.injEq] at g1
   subst g1
   simp only [Z0a] at g2 g3
   obtain ⟨τb,rfl⟩:=Z5i g3
   have h0:Z0g (.pair τf τb) [.fst]=0:=by cases τf<;>rfl
   rw [h0,Nat.add_zero] at g2
   obtain ⟨ta1,tb1,ca1,cb1,k1,r1,r2⟩:=Z7o h1
   obtain ⟨ta2,tb2,ca2,cb2,k2,r3,r4⟩:=Z7o h2
   simp only [Z42] at hb
   split at hb
   ·rename_i p q hp hq
    cases hb
    have s1:=r1.len.1
    have s2:=r3.len.1
    have l1:(cs1.toList.drop off).length=ca1.length+cb1.length:=by rw [k1,List.length_append]
    have l2:(cs2.toList.drop off).length=ca2.length+cb2.length:=by rw [k2,List.length_append]
    simp only [List.length_drop,Array.length_toList] at l1 l2
    by_cases hz:size τf=0
    ·
     exfalso
     have hpos:=(hT _ _ _ g4)
     by_cases hlf:lf=[]
     ·obtain ⟨_,_,_,_,u5,u6⟩:=hpos.und hlf
      cases τf with
      | unit=>exact u5 rfl
      | pair a b=>exact u6 a b rfl
      | _=>simp [size] at hz
     ·obtain ⟨fs,_,_,q5,_⟩:=hpos.str hlf
      obtain ⟨f2,τ2,l2,_,_,_,q6,_,q7,_⟩:=(q5 0 (List.length_pos_iff.2 hlf)).out
      match hn:lf.length with
      | 0=>exact absurd (List.length_eq_zero_iff.1 hn) hlf
      | 1=>
       rw [hn] at q6
       simp only [Z0a,Z1H,Option.some.injEq] at q6
       subst q6
       exact q7 hz
      | n+2=>
       rw [hn] at q6
       simp only [Z0a] at q6
       obtain ⟨b,rfl⟩:=Z5i q6
       simp only [size] at hz
       omega
    have e1:=Z2V hT g4 (cs:=cs1) (off:=off) (by omega) w2
    have e2:=Z2V hT g4 (cs:=cs2) (off:=off) (by omega) w2
    rw [k1,List.take_left' s1] at e1
    rw [k2,List.take_left' s2] at e2
    have e3:=g6 τf lf g4 _ _ x.1 y.1 ta1 ta2 r1 r3 p hp w2
    have d1:cs1.toList.drop (off+size τf)=cb1:=by rw [<-List.drop_drop,k1,List.drop_left' s1]
    have d2:cs2.toList.drop (off+size τf)=cb2:=by rw [<-List.drop_drop,k2,List.drop_left' s2]
    have e4:=Z6F hT d cs1 cs2 w2 (m+1) fl τb (off+size τf) (by omega) (by simpa using hl) (λi hi=>by
     obtain ⟨f,τg,lg,q1,q2,q3,q4,q5,q6⟩:=hf (i+1) (by omega)
     simp only [Z0a] at q2 q3
     obtain ⟨a',b',he,q3'⟩:=Z90 q3
     cases he
     refine ⟨f,τg,lg,by simpa using q1,?_,q3',q4,q5,q6⟩
     have:Z0g (.pair τf τb) (.snd::Z0a (m+1) i)=size τf+Z0g τb (Z0a (m+1) i):=rfl
     rw [q2,this];omega) x.2 y.2 tb1 tb2 (by rw [d1];exact r2) (by rw [d2];exact r4) q hq
    simp only [Op.eqFields,g5,ne_eq,not_false_eq_true,if_true,Sem.run_bind,g2,e1,e2,e3,Result.andThen_ok]
    cases p
    ·simp
    ·simpa using e4
   ·cases hb
theorem Z7a (hT:Z0e P tys):(n d:Nat)->(t:TypeId)->n<=d->Z43 tys n t=true->EqT P tys w F St Al d t
 | 0,d,t,_,h=>by cases h
 | n+1,d,t,hd,h=>by
  obtain ⟨m,τ,l,hm,ha,hk⟩:=Z5V h
  obtain rfl:m=n:=by omega
  obtain ⟨d,rfl⟩:∃ e,d=e+1:=⟨d-1,by omega⟩
  have hF:=hT t τ l ha
  intro τ' l' ha' cs1 cs2 x y tg1 tg2 h1 h2 b hb w2
  rw [ha] at ha'
  cases ha'
  rcases hk with ⟨rfl,hk⟩ | ⟨hl,hk⟩
  ·obtain ⟨u1,u2,u3,_⟩:=hF.und rfl
   rcases hk with ⟨k,rfl⟩ | rfl | rfl
   ·obtain ⟨rfl,_,_⟩:=h1
    obtain ⟨rfl,_,_⟩:=h2
    simp only [Z42,Option.some.injEq] at hb
    subst hb
    show (Op.equalIn (d+1) t (.int k x) (.int k y)).run P w2=_
    simp only [Op.equalIn,Sem.run_bind,run_underlying (u1 k rfl),Result.andThen_ok,if_true,Sem.run_pure]
   ·obtain ⟨rfl,_,_⟩:=h1
    obtain ⟨rfl,_,_⟩:=h2
    simp only [Z42,Option.some.injEq] at hb
    subst hb
    show (Op.equalIn (d+1) t (.bool x) (.bool y)).run P w2=_
    simp only [Op.equalIn,Sem.run_bind,run_underlying (u2 rfl),Result.andThen_ok,Sem.run_pure]
   ·obtain ⟨rfl,_,_⟩:=h1
    obtain ⟨rfl,_,_⟩:=h2
    simp only [Z42,Option.some.injEq] at hb
    subst hb
    show (Op.equalIn (d+1) t (.string x) (.string y)).run P w2=_
    simp only [Op.equalIn,Sem.run_bind,run_underlying (u3 rfl),Result.andThen_ok,Sem.run_pure]
    rw [beq_toListBytes]
  ·obtain ⟨fs,hu,hfl,hfs,hst⟩:=hF.str hl
   have hie:(!l.isEmpty)=true:=by cases l<;>simp_all
   rw [hie]
   have hfo:P.fieldsOf t=fs:=by simp [Program.fieldsOf,hu]
   show (Op.equalIn (d+1) t (.agg cs1.toArray) (.agg cs2.toArray)).run P w2=_
   rw [run_equalIn_struct w2 d t _ _ (by rw [hfo];exact hu) hst,hfo]
   refine Z6F hT d _ _ w2 l.length fs.toList τ 0 (by simpa using hl) (by simpa using hfl) (λi hi=> ?_) x y tg1 tg2 (by simpa using h1) (by simpa using h2) b hb
   obtain ⟨f,τf,lf,q1,q2,q3,q4,q5,_,q7⟩:=(hfs i hi).out
   refine ⟨f,τf,lf,by rw [Array.getElem?_toList];exact q1,by rw [q3];omega,q4,q5,q7,?_⟩
   have hx:Z43 tys m f.type=true:=by
    rw [q2]
    exact hk _ (by rw [List.getD_eq_getElem?_getD,List.getElem?_eq_getElem hi];exact List.getElem_mem _)
   exact Z7a hT m d f.type (by omega) hx
theorem Z9k (hT:Z0e P tys) (I:Inv W0 M σ a w G xs) {op:BinOp} {t ty:TypeId} {x y:Operand} (ho:o.op= .binOp op t x y ty) {u v:TVal} (hu:σ.look x=some u) (hv:σ.look y=some v) (hua:u.ag=true) (hva:v.ag=true)
  {r:Bool×TVal} (hr:eqV tys t op u v=some r):Z0P P σ a w G o (.val r.2):=by
 unfold eqV at hr
 split at hr
 ·rename_i hc
  simp only [Bool.and_eq_true,decide_eq_true_eq] at hc
  obtain ⟨⟨hok,hag⟩,hty⟩:=hc
  obtain ⟨l,hta,hl⟩:=Z0S hty
  rw [hag] at hl
  obtain ⟨hR1,hs1⟩:=Z1r I hu
  obtain ⟨hR2,hs2⟩:=Z1r I hv
  obtain ⟨τ,ag,p,tg⟩:=u
  obtain ⟨τ',ag',q,tg'⟩:=v
  simp only at hua hva hs1 hs2 hR1 hR2 hta
  subst hua;subst hva
  obtain ⟨c1,e1⟩:=hs1
  obtain ⟨c2,e2⟩:=hs2
  split at hr
  ·rename_i hτ
   simp only at hτ
   subst hτ
   have v1:Z02 (a.eval x)=c1.toList:=by rw [e1];rfl
   have v2:Z02 (a.eval y)=c2.toList:=by rw [e2];rfl
   rw [v1] at hR1
   rw [v2] at hR2
   have hguard:∀ w2:World,(eqGuard op t x y (.agg c1) (.agg c2)).run P w2= .ok () w2:=by
    intro w2
    have h0:=Z5U hT 20 P.depth t (by unfold Program.depth Made.depth;omega) hok
    cases op<;>simp [eqGuard,h0,Sem.run_bind,run_program]
   have heq:∀ b,Z42 τ' p q=some b->∀ w2,(Op.equal t (.agg c1) (.agg c2)).run P w2= .ok b w2:=by
    intro b hb w2
    have:=Z7a (w:=w) (F:=G.F) (St:=G.St) (Al:=G.Al) hT 20 Op.maxDepth t (by unfold Op.maxDepth;omega) hok _ _ hta _ _ p q tg tg' hR1 hR2 b hb w2
    rw [<-hl] at this
    exact this
   split at hr
   ·rename_i b hb
    split at hr
    ·cases hr
     refine ⟨.bool b,Z0B rfl ⟨rfl,rfl,rfl⟩,λw2=> ?_⟩
     rw [Z03 ho]
     simp only [execOp,e1,e2,Sem.run_bind,hguard w2,Result.andThen_ok,binOp,heq b hb w2,Sem.run_pure]
    ·cases hr
     refine ⟨.bool (!b),Z0B rfl ⟨rfl,rfl,rfl⟩,λw2=> ?_⟩
     rw [Z03 ho]
     simp only [execOp,e1,e2,Sem.run_bind,hguard w2,Result.andThen_ok,binOp,heq b hb w2,Sem.run_pure]
    ·cases hr
   ·cases hr
  ·cases hr
 ·cases hr
theorem Z7y (hT:Z0e P tys) (I:Inv W0 M σ a w G xs) {op:BinOp} {t ty:TypeId} {x y:Operand} (ho:o.op= .binOp op t x y ty) (h:Z0l tys σ o.op=some (g,tv)) (hg:g=true):Z0P P σ a w G o tv:=by
 rw [ho] at h
 simp only [Z0l] at h
 split at h
 ·rename_i u v hu hv
  obtain ⟨r,hr,he⟩:=Option.map_eq_some_iff.1 h
  simp only [Prod.mk.injEq] at he
  obtain ⟨hr1,rfl⟩:=he
  rw [hg] at hr1
  split at hr
  ·rename_i hag
   simp only [Bool.and_eq_true] at hag
   exact Z9k hT I ho hu hv hag.1 hag.2 hr
  ·exact Z8V hT I ho hu hv hr hr1
 ·cases h
theorem Z7B (hT:Z0e P tys) (I:Inv W0 M σ a w G xs) (h:Z0l tys σ o.op=some (g,tv)) (hg:g=true):Z5P P σ a w G o tv:=by
 cases hop:o.op with
 | move x=>exact (Z3h I hop h).ok
 | unOp op t x=>exact (Z6Q I hop h).ok
 | binOp op t x y ty=>exact (Z7y hT I hop h hg).ok
 | convert s t x=>exact Z7z hT I hop h
 | nilCheck x=>exact (Z3r I hop h).ok
 | makeFunc f fst cs=>exact (Z4N I hop h).ok
 | load t x=>exact Z8W hT I hop h
 | slice t x lo hi mx=>exact (Z6g hT I hop h hg).ok
 | fieldAddr t x i=>exact (Z2X hT I hop h).ok
 | field t x i=>exact (Z6e hT I hop h).ok
 | indexAddr t x i=>exact (Z2Y hT I hop h hg).ok
 | index t x i=>exact (Z6f hT I hop h hg).ok
 | extract x i=>exact (Z5g I hop h).ok
 | call c=>exact (Z7A hT I hop h).ok
 | _=>rw [hop] at h;simp [Z0l] at h
end
end Go.PI
namespace Go.PI
structure Calmer (w:World) (G:Ghost) (w':World) (G':Ghost):Prop where
 a:∀ w2,Z6i w' G' w2->Z6i w G w2
 b:∀ w2,Z4p w' G' w2->Z4p w G w2
def Z5l (w:World) (G:Ghost) (w':World) (G':Ghost):Prop:=∀ w2,Z4p w' G' w2->Z4p w G w2
theorem Calmer.refl (w:World) (G:Ghost):Calmer w G w G:=⟨λ_ h=>h,λ_ h=>h⟩
theorem Calmer.trans {w1 w2 w3:World} {G1 G2 G3:Ghost} (h:Calmer w1 G1 w2 G2) (k:Calmer w2 G2 w3 G3):Calmer w1 G1 w3 G3:=⟨λw hc=>h.a w (k.a w hc),λw hc=>h.b w (k.b w hc)⟩
theorem Sim.calmer {w:World} {G G':Ghost} (h:Sim G G'):Calmer w G w G':=⟨λw2 hc=>
 ⟨λb hb ha o n cs hn h1=>hc.1 b hb (by rw [h.Al];exact ha) o n cs (by rw [h.F];exact hn) h1,λi b hb=>hc.2 i b ((h.bx b i).2 hb)⟩,λw2 hc i b hb=>hc i b ((h.bx b i).2 hb)⟩
structure Pushed (w w':World) (o:Obj):Prop where
 heap:w'.heap=w.heap.push o
 os:w'.os=w.os
 tape:w'.tape=w.tape
 output:w'.output=w.output
theorem Pushed.old {w w':World} {o:Obj} (h:Pushed w w' o) {b:Nat} (hb:b<w.heap.size):w'.heap[b]? = w.heap[b]? := by
 rw [h.heap,Array.getElem?_push_lt hb,Array.getElem?_eq_getElem hb]
theorem Pushed.new {w w':World} {o:Obj} (h:Pushed w w' o):w'.heap[w.heap.size]? = some o:=by
 rw [h.heap];simp
theorem Pushed.size {w w':World} {o:Obj} (h:Pushed w w' o):w'.heap.size=w.heap.size+1:=by rw [h.heap];simp
theorem Pushed.alloc (w:World) (o:Obj):Pushed w (w.alloc o) o:=⟨rfl,rfl,rfl,rfl⟩
theorem Pushed.drew (w:World) (o:Obj):Pushed w (w.drew.alloc o) o:=⟨rfl,rfl,rfl,rfl⟩
def Ghost.grow (G:Ghost) (g:Nat) (z:Who) (n:Nat):Ghost:=
 { G with F:=λb=>if b=g then n else G.F b,who:=λb=>if b=g then some z else G.who b }
section
variable {W0:Base} {M:Nat->Prop} {σ:State} {a:Act} {w w':World} {G:Ghost} {xs:List Nat}
theorem Inv.grow (I:Inv W0 M σ a w G xs) {o:Obj} (hp:Pushed w w' o) {z:Who} (n:Nat) {ys:List Nat} (hz:(z= .x/\ys=[w.heap.size])\/((∃ i,z= .a i)/\ys=[])) :
  Inv W0 M σ a w' (G.grow w.heap.size z n) (ys++xs)/\Calmer w G w' (G.grow w.heap.size z n) /\
   ∀ (τ:Ty) (tg:List Tag) (cs:List Value) (x:El τ) (fp:List Nat),Rp w G.F G.St G.Al τ tg cs x fp ->
    Rp w' (G.grow w.heap.size z n).F (G.grow w.heap.size z n).St (G.grow w.heap.size z n).Al τ tg cs x fp:=by
 have hk:∀ b,b<w.heap.size->Z07 w G.F w' (G.grow w.heap.size z n).F b/\(G.grow w.heap.size z n).F b=G.F b:=by
  intro b hb
  have:(G.grow w.heap.size z n).F b=G.F b:=by
   show (if b=w.heap.size then n else G.F b)=_
   rw [if_neg (by omega)]
  exact ⟨Z07.of_block (hp.old hb) (by rw [this];exact Nat.le_refl _),this⟩
 have hwho:∀ b,b<w.heap.size->(G.grow w.heap.size z n).who b=G.who b:=λb hb=>if_neg (by omega)
 have hlt:∀ b z,G.who b=some z->b<w.heap.size:=λb z h=>(I.lt b z h).1
 have hne:∀ b z',G.who b=some z'->(G.grow w.heap.size z n).who b=some z':=λb z' h=>by rw [hwho b (hlt b z' h)];exact h
 have hS:Same σ w G w' (G.grow w.heap.size z n):=
  ⟨rfl,rfl,rfl,λb z' h _=>hne b z' h,λb hb h=>⟨λi=>by rw [hwho b hb];exact h.1 i,λhn=>h.2 (by rw [<-hwho b hb];exact hn)⟩,λb h=>h,λb h=>(hk b (I.st b h).2).1,λb z h _ _=>hk b (hlt b z h),λi v h=>hp.old (hlt _ _ (I.box i v h).2),.inr λb hb _=>(hk b hb).1⟩
 have hg:(G.grow w.heap.size z n).who w.heap.size=some z:=if_pos rfl
 refine ⟨?_,?_,?_⟩
 ·refine I.world hS (λb hb=>⟨?_,?_⟩) (λb z' hb=> ?_) ?_ (λb hb=> ?_) ?_ ⟨λb hb hM=>by rw [(hk b (by have:=I.ext.size;omega)).2];exact I.org.F b hb hM,I.org.St,I.org.St'⟩
  ·rw [hwho b (I.st b hb).2];exact (I.st b hb).1
  ·rw [hp.size];have:=(I.st b hb).2;omega
  ·by_cases hbg:b=w.heap.size
   ·subst hbg
    exact ⟨by rw [hp.size];omega,.inl I.ext.size⟩
   ·have:G.who b=some z':=by
     have h1:(G.grow w.heap.size z n).who b=G.who b:=if_neg hbg
     rw [<-h1];exact hb
    obtain ⟨h1,h2⟩:=I.lt b z' this
    exact ⟨by rw [hp.size];omega,h2⟩
  ·refine ⟨hp.os.trans I.ext.os,hp.tape.trans I.ext.tape,hp.output.trans I.ext.output,by rw [hp.size];have:=I.ext.size;omega,λb hb hM=> ?_⟩
   rw [hp.old (by have:=I.ext.size;omega)];exact I.ext.block b hb hM
  ·rcases List.mem_append.1 hb with hb | hb
   ·rcases hz with ⟨rfl,rfl⟩ | ⟨_,rfl⟩
    ·rw [List.mem_singleton.1 hb];exact hg
    ·cases hb
   ·exact hne b _ (I.whoX b hb)
  ·rcases hz with ⟨rfl,rfl⟩ | ⟨_,rfl⟩
   ·refine List.nodup_cons.2 ⟨λhm=> ?_,I.nodX⟩
    have:=hlt _ _ (I.whoX _ hm)
    omega
   ·exact I.nodX
 ·refine ⟨λw2 hc=>⟨λb hb ha o n' cs hn h1=> ?_,λi b hb=> ?_⟩,λw2 hc i b hb=> ?_⟩
  ·refine hc.1 b (by rw [hp.size];omega) (hS.Al b hb ha) o n' cs (by rw [(hk b hb).2];exact hn) ?_
   rw [Z11 (hp.old hb)];exact h1
  ·rw [hc.2 i b (hne b _ hb)]
   exact hp.old (hlt b _ hb)
  ·rw [hc i b (hne b _ hb)]
   exact hp.old (hlt b _ hb)
 ·intro τ tg cs x fp h
  exact h.pres hS.St hS.Al hS.S (λb hb=>hk b (h.lt b hb)) (.inr λb hb _=>(hk b hb).1)
end
end Go.PI
namespace Go.PI
def Z1u (i:Nat) (tv:TV) (v:Value) (Q:Place->Value->Prop):Prop:=
 match tv with
 | .ref p _=>¬ (p.box=true/\p.root=i)
 | .eref p=>¬ (p.box=true/\p.root=i)
 | .ptr p=>p.root=i->Q p v
 | .clos f ps=>∀ k (h:k<ps.length),ps[k].root=i->∀ vs:Array Value,v= .func (.func f) #[] vs->Q ps[k] (vs.getD k undef)
 | _=>True
theorem Z1u.mono {i:Nat} {tv:TV} {v:Value} {Q Q':Place->Value->Prop} (h:Z1u i tv v Q) (hq:∀ p v,p.root=i->Q p v->Q' p v):Z1u i tv v Q':=by
 cases tv with
 | ptr p=>exact λhr=>hq _ _ hr (h hr)
 | clos f ps=>exact λk hk hr vs hv=>hq _ _ hr (h k hk hr vs hv)
 | _=>exact h
theorem Z1u.or_dead {i:Nat} {tv tv':TV} {v:Value} {Q:Place->Value->Prop} (h:Z1u i tv v Q) (ht:tv'=tv\/tv'= .dead):Z1u i tv' v Q:=by
 rcases ht with rfl | rfl
 ·exact h
 ·trivial
def Z2m (g:Nat) (τ:Ty) (p:Place) (u:Value):Prop:=
 p.box=true/\Z08 p.path=true/\∃ off,u= .pointer (some ⟨g,off,none⟩)/\∀ (w:World) (l:List Value),∃ cs,Z00 w τ l (some (g,0)) p.path=some (cs,some (g,off))
theorem Z4B:{path:List Step}->{w w':World}->{τ:Ty}->{l l':List Value}->{base:Option (Nat×Nat)}->{cs:List Value}->{b:Option (Nat×Nat)}->Z08 path=true ->
  Z00 w τ l base path=some (cs,b)->∃ cs',Z00 w' τ l' base path=some (cs',b)
 | [],w,w',τ,l,l',base,cs,b,_,h=>by
  rw [Z0Q] at h ⊢
  cases h
  exact ⟨_,rfl⟩
 | .fst::p,w,w',.pair a c,l,l',base,cs,b,hf,h=>Z4B (path:=p) (τ:=a) (w:=w) (w':=w') (l:=l.take (size a)) (l':=l'.take (size a)) hf h
 | .snd::p,w,w',.pair a c,l,l',base,cs,b,hf,h=>Z4B (path:=p) (τ:=c) (w:=w) (w':=w') (l:=l.drop (size a)) (l':=l'.drop (size a)) hf h
 | .idx _::_,_,_,_,_,_,_,_,_,hf,_=>by simp [Z08] at hf
 | .fst::_,_,_,.int _,_,_,_,_,_,_,h=>by simp [Z00] at h
 | .fst::_,_,_,.bool,_,_,_,_,_,_,h=>by simp [Z00] at h
 | .fst::_,_,_,.str,_,_,_,_,_,_,h=>by simp [Z00] at h
 | .fst::_,_,_,.unit,_,_,_,_,_,_,h=>by simp [Z00] at h
 | .fst::_,_,_,.slice _,_,_,_,_,_,_,h=>by simp [Z00] at h
 | .snd::_,_,_,.int _,_,_,_,_,_,_,h=>by simp [Z00] at h
 | .snd::_,_,_,.bool,_,_,_,_,_,_,h=>by simp [Z00] at h
 | .snd::_,_,_,.str,_,_,_,_,_,_,h=>by simp [Z00] at h
 | .snd::_,_,_,.unit,_,_,_,_,_,_,h=>by simp [Z00] at h
 | .snd::_,_,_,.slice _,_,_,_,_,_,_,h=>by simp [Z00] at h
section
variable {W0:Base} {M:Nat->Prop} {σ:State} {a:Act} {w w':World} {G:Ghost} {xs:List Nat}
theorem Z1D {i:Nat} {v:TVal} (h:σ.boxAt i=some v):i<σ.boxes.length:=by
 rcases Nat.lt_or_ge i σ.boxes.length with h1 | h1
 ·exact h1
 ·rw [show σ.boxAt i=none from Z2g _ _ h1] at h;cases h
theorem Z0E (i:Nat) (v:Option TVal) (j:Nat):(σ.putBox i v).boxAt j=if i=j/\i<σ.boxes.length then v else σ.boxAt j:=Z0U _ _ _ _
theorem Z1G (i:Nat) (v:Option TVal) (j:Nat):(σ.putBox i v).slot j=σ.slot j:=rfl
theorem Z57 {i:Nat} {v:TVal} {p:Place} {u:Value} (I:Inv W0 M σ a w G xs) (hb:σ.boxAt i=some v) (hbx:p.box=true) (hf:Z08 p.path=true) (hr:p.root=i) (h:Z0x σ G a w p u):Z2m (G.ad i) v.τ p u:=by
 obtain ⟨bx,r,path⟩:=p
 simp only at hbx hr hf
 subst hbx
 subst hr
 rcases h with h | ⟨cs,b,⟨τ,l,b',h3,h4,h5⟩,h6⟩
 ·rw [Z1q,hb] at h;cases h
 ·rw [Z1q,hb] at h3
  cases h3
  obtain ⟨⟨c,T,hh,_⟩,_⟩:=I.box r v hb
  simp only [Z09,hh,Option.some.injEq,Prod.mk.injEq] at h4
  obtain ⟨rfl,rfl⟩:=h4
  have hoff:∃ off,b=(G.ad r,off):=by
   have:∀ {path:List Step} {τ:Ty} {l:List Value} {base:Nat×Nat} {cs:List Value} {b:Nat×Nat},Z08 path=true->Z00 w τ l (some base) path=some (cs,some b)->b.1=base.1:=by
    intro path
    induction path with
    | nil=>intro τ l base cs b _ h;rw [Z0Q] at h;cases h;rfl
    | cons s path ih=>
     intro τ l base cs b hf h
     cases s with
     | idx i=>simp [Z08] at hf
     | fst=>cases τ<;>first | (exact ih (by simpa [Z08] using hf) h) | (simp [Z00] at h)
     | snd=>cases τ<;>first | (have:=ih (by simpa [Z08] using hf) h;exact this) | (simp [Z00] at h)
   have:=this hf h5
   exact ⟨b.2,Prod.ext this rfl⟩
  obtain ⟨off,rfl⟩:=hoff
  exact ⟨rfl,hf,off,h6,λw l=>Z4B hf h5⟩
theorem Inv.ptrFix (I:Inv W0 M σ a w G xs) {i:Nat} {v:TVal} (hb:σ.boxAt i=some v) (j:Nat) (hj:j<σ.slots.length) :
  Z1u i (TV.loosen true i (σ.slot j)) (a.tmps.getD j undef) (Z2m (G.ad i) v.τ):=by
 have h:=I.slot j hj
 cases hs:σ.slot j with
 | ref p ag=>
  simp only [TV.loosen]
  split
  ·trivial
  ·rename_i hc;simpa [Z1u] using hc
 | eref p=>
  simp only [TV.loosen]
  split
  ·trivial
  ·rename_i hc;simpa [Z1u] using hc
 | ptr p=>
  rw [hs] at h
  exact λhr=>Z57 I hb h.2.1 h.2.2.1 hr h.2.2.2
 | clos f ps=>
  rw [hs] at h
  obtain ⟨_,vs,hv,_,hk⟩:=h
  intro k hkl hr vs' hv'
  rw [hv] at hv'
  cases hv'
  exact Z57 I hb (hk k hkl).1 (hk k hkl).2.1 hr (hk k hkl).2.2
 | _=>trivial
theorem Z2m.rel {σ':State} {a':Act} {G':Ghost} {g:Nat} {τ:Ty} {p:Place} {u:Value} (h:Z2m g τ p u) {v:TVal} (hb:σ'.boxAt p.root=some v) (hτ:v.τ=τ) (had:G'.ad p.root=g)
  {c:Array Value} {T:TypeId} {fr:Nat×Nat} (hh:w'.heap[g]? = some (.cells c T fr)):Z0x σ' G' a' w' p u:=by
 obtain ⟨hbx,hf,off,hu,hl⟩:=h
 obtain ⟨cs,hcs⟩:=hl w' c.toList
 obtain ⟨bx,r,path⟩:=p
 simp only at hbx hb had hcs
 subst hbx
 refine .inr ⟨cs,(g,off),⟨τ,c.toList,some (g,0),?_,?_,hcs⟩,hu⟩
 ·rw [Z1q,hb,<-hτ];rfl
 ·simp only [Z09,had,hh]
theorem Inv.addBox {fv:List Nat} (I:Inv W0 M σ a w G (fv++xs)) {i g:Nat} {c:Array Value} {T:TypeId} {v:TVal} (hi:i<σ.boxes.length) (hb:w.heap[g]? = some (.cells c T (0,0)))
  (hw:G.who g=some (.a i)) (hR:Rp w G.F G.St G.Al v.τ v.tg c.toList v.x fv)
  (hs:∀ j,j<σ.slots.length->Z1u i (σ.slot j) (a.tmps.getD j undef) (λp u=>Z2m g v.τ p u)) (hadx:i<σ.slots.length\/G.ad i=g) :
  ∃ G',Inv W0 M (σ.putBox i (some v)) a w G' xs/\G'.F=G.F/\G'.St=G.St/\G'.Al=G.Al/\(∀ b k,G'.who b=some (.a k)↔G.who b=some (.a k))/\G'.ad=λj=>if j=i then g else G.ad j:=by
 classical
 let G':Ghost:=⟨G.F,G.St,(λb=>if b∈fv then some (.c i) else G.who b),G.fs,(λj=>if j=i then fv else G.fb j),λj=>if j=i then g else G.ad j⟩
 have hfv:∀ b∈fv,G.who b=some .x:=λb hb=>I.whoX b (List.mem_append_left _ hb)
 have hbx:∀ b k,G'.who b=some (.a k)↔G.who b=some (.a k):=by
  intro b k
  show (if b∈fv then some (Who.c i) else G.who b)=some (.a k)↔_
  by_cases hb:b∈fv
  ·rw [hfv b hb];simp [hb]
  ·simp [hb]
 have hA:G'.Al=G.Al:=by
  funext b
  apply propext
  show ((∀ k,(if b∈fv then some (Who.c i) else G.who b)≠some (.a k))/\((if b∈fv then some (Who.c i) else G.who b)=none->G.St b))↔_
  by_cases hb:b∈fv
  ·simp only [hb,if_true]
   have:=hfv b hb
   constructor
   ·intro _;exact ⟨λk=>(by rw [this];simp),λh=>(by rw [this] at h;cases h)⟩
   ·intro _;exact ⟨λk=>(by simp),λh=>(by cases h)⟩
  ·simp only [hb,if_false];rfl
 have hct:∀ p:Place,¬ (p.box=true/\p.root=i)->(σ.putBox i (some v)).ct p=σ.ct p/\Z09 G' a w p=Z09 G a w p:=by
  rintro ⟨bx,r,path⟩ hp
  cases bx with
  | false=>exact ⟨rfl,rfl⟩
  | true=>
   have hri:r≠i:=λh=>hp ⟨rfl,h⟩
   refine ⟨?_,?_⟩
   ·rw [Z1q,Z1q,Z0E,if_neg (by rintro ⟨h,_⟩;exact hri h.symm)]
   ·simp only [Z09]
    rw [show G'.ad r=G.ad r from if_neg hri]
 have hmove:∀ {p:Place} {u:Value},p.root≠i->Z0x σ G a w p u->Z0x (σ.putBox i (some v)) G' a w p u:=by
  intro p u hr h
  obtain ⟨h1,h2⟩:=hct p (λh=>hr h.2)
  rcases h with h | ⟨cs,b,⟨τ,l,b',h3,h4,h5⟩,h6⟩
  ·exact .inl (h1.trans h)
  ·exact .inr ⟨cs,b,⟨τ,l,b',h1.trans h3,h2.trans h4,h5⟩,h6⟩
 have hself:(σ.putBox i (some v)).boxAt i=some v:=by rw [Z0E];simp [hi]
 have hfix:∀ {p:Place} {u:Value},p.root=i->Z2m g v.τ p u->Z0x (σ.putBox i (some v)) G' a w p u:=by
  intro p u hr h
  exact h.rel (v:=v) (by rw [hr];exact hself) rfl (show (if p.root=i then g else G.ad p.root)=g by rw [if_pos hr]) hb
 refine ⟨G',⟨I.defers,I.len,λj hj=> ?_,λj u hu=> ?_,λj b hb=> ?_,λj b hb=> ?_,λb hb=> ?_,I.nodS,λj=> ?_,(List.nodup_append.1 I.nodX).2.1,λb hb=> ?_,λb z hb=> ?_,I.ext,λj hj=> ?_,⟨I.org.F,I.org.St,I.org.St'⟩,I.pin⟩,rfl,rfl,hA,hbx,rfl⟩
 ·have h:=I.slot j hj
  have hq:=hs j hj
  rw [Z1G]
  cases ht:σ.slot j with
  | ptr p=>
   rw [ht] at h hq
   refine ⟨h.1,h.2.1,h.2.2.1,?_⟩
   by_cases hr:p.root=i
   ·exact hfix hr (hq hr)
   ·exact hmove hr h.2.2.2
  | clos f ps=>
   rw [ht] at h hq
   obtain ⟨h1,vs,h2,h3,h4⟩:=h
   refine ⟨h1,vs,h2,h3,λk hk=>⟨(h4 k hk).1,(h4 k hk).2.1,?_⟩⟩
   by_cases hr:ps[k].root=i
   ·exact hfix hr (hq k hk hr vs h2)
   ·exact hmove hr (h4 k hk).2.2
  | ref p ag=>
   rw [ht] at h hq
   exact Z01.move (λq hq'=> .inr (hct q (by rw [List.mem_singleton.1 hq'];exact hq))) rfl rfl hA h
  | eref p=>
   rw [ht] at h hq
   exact Z01.move (λq hq'=> .inr (hct q (by rw [List.mem_singleton.1 hq'];exact hq))) rfl rfl hA h
  | tref t' ags=>
   rw [ht] at h
   exact Z01.move (λq hq'=> .inr (hct q (by rw [List.mem_singleton.1 hq'];rintro ⟨hb,_⟩;cases hb))) rfl rfl hA h
  | dead=>rw [ht] at h;exact Z01.move (G:=G) (λq hq'=>absurd hq' (by simp [TV.places])) rfl rfl hA h
  | un=>rw [ht] at h;exact Z01.move (G:=G) (λq hq'=>absurd hq' (by simp [TV.places])) rfl rfl hA h
  | nil=>rw [ht] at h;exact Z01.move (G:=G) (λq hq'=>absurd hq' (by simp [TV.places])) rfl rfl hA h
  | val u=>rw [ht] at h;exact Z01.move (G:=G) (λq hq'=>absurd hq' (by simp [TV.places])) rfl rfl hA h
  | tup u ags=>rw [ht] at h;exact Z01.move (G:=G) (λq hq'=>absurd hq' (by simp [TV.places])) rfl rfl hA h
  | eptr u t=>rw [ht] at h;exact Z01.move (G:=G) (λq hq'=>absurd hq' (by simp [TV.places])) rfl rfl hA h
  | sclos f τs u=>rw [ht] at h;exact Z01.move (G:=G) (λq hq'=>absurd hq' (by simp [TV.places])) rfl rfl hA h
  | sptr r τr p=>rw [ht] at h;exact Z01.move (G:=G) (λq hq'=>absurd hq' (by simp [TV.places])) rfl rfl hA h
 ·rw [Z0E] at hu
  split at hu
  ·rename_i hc
   obtain ⟨rfl,_⟩:=hc
   cases hu
   refine ⟨⟨c,T,?_,?_⟩,?_⟩
   ·rw [show G'.ad i=g from if_pos rfl];exact hb
   ·rw [show G'.fb i=fv from if_pos rfl,hA];exact hR
   ·rw [show G'.ad i=g from if_pos rfl];exact (hbx _ _).2 hw
  ·rename_i hc
   have hji:j≠i:=λh=>hc ⟨h.symm,hi⟩
   obtain ⟨⟨c',T',h1,h2⟩,h3⟩:=I.box j u hu
   refine ⟨⟨c',T',?_,?_⟩,?_⟩
   ·rw [show G'.ad j=G.ad j from if_neg hji];exact h1
   ·rw [show G'.fb j=G.fb j from if_neg hji,hA];exact h2
   ·rw [show G'.ad j=G.ad j from if_neg hji];exact (hbx _ _).2 h3
 ·have h:=I.whoS j b hb
  show (if b∈fv then some (Who.c i) else G.who b)=_
  rw [if_neg (λhm=>by rw [hfv b hm] at h;cases h)]
  exact h
 ·show (if b∈fv then some (Who.c i) else G.who b)=_
  by_cases hji:j=i
  ·subst hji
   have:b∈fv:=by simpa [G'] using hb
   rw [if_pos this]
  ·have hb:b∈G.fb j:=by simpa [G',hji] using hb
   have h:=I.whoC j b hb
   rw [if_neg (λhm=>by rw [hfv b hm] at h;cases h)]
   exact h
 ·have h:=I.whoX b (List.mem_append_right _ hb)
  show (if b∈fv then some (Who.c i) else G.who b)=_
  rw [if_neg]
  ·exact h
  ·intro hm
   exact (List.nodup_append.1 I.nodX).2.2 b hm b hb rfl
 ·show (if j=i then fv else G.fb j).Nodup
  split
  ·exact (List.nodup_append.1 I.nodX).1
  ·exact I.nodC j
 ·have h:=I.st b hb
  refine ⟨?_,h.2⟩
  show (if b∈fv then some (Who.c i) else G.who b)=none
  rw [if_neg (λhm=>by rw [hfv b hm] at h;cases h.1)]
  exact h.1
 ·change (if b∈fv then some (Who.c i) else G.who b)=some z at hb
  split at hb
  ·rename_i hm
   exact I.lt b _ (hfv b hm)
  ·exact I.lt b z hb
 ·have hj:σ.slots.length<=j:=hj
  show (if j=i then g else G.ad j)=_
  split
  ·rename_i h
   subst h
   rcases hadx with h | h
   ·omega
   ·rw [<-h];exact I.adx _ hj
  ·exact I.adx j hj
end
end Go.PI
namespace Go.PI
theorem Z1z {α:Type}:∀ (l:List α) (i:Nat) (u v:α),Z0I (Z0I l i u) i v=Z0I l i v
 | [],_,_,_=>rfl
 | _::_,0,_,_=>rfl
 | _::l,i+1,u,v=>by simp only [Z2w,Z2a,Z1j];rw [Z1z l i u v]
theorem Z5e {α:Type} {d:α}:∀ (l:List α) (i:Nat),i<l.length->Z0I l i (Z0v d l i)=l
 | [],_,h=>by simp at h
 | _::_,0,_=>rfl
 | _::l,i+1,h=>by simp only [Z2w,Z2a,Z1j,Z0y,Z0t,Z0q];rw [Z5e l i (by simpa using h)]
section
variable {W0:Base} {M:Nat->Prop} {σ:State} {a:Act} {w w':World} {G:Ghost} {xs:List Nat}
theorem Inv.takeBox (I:Inv W0 M σ a w G xs) {i:Nat} {v:TVal} (hb:σ.boxAt i=some v) :
  ∃ G',Inv W0 M ((σ.loosen true i).putBox i none) a w G' (G.fb i++xs)/\Sim G G'/\G.who (G.ad i)=some (.a i) /\
   (∃ c T,w.heap[G.ad i]? = some (.cells c T (0,0))/\Rp w G.F G.St G.Al v.τ v.tg c.toList v.x (G.fb i)) /\
   ∀ j,j<σ.slots.length->Z1u i ((σ.loosen true i).slot j) (a.tmps.getD j undef) (Z2m (G.ad i) v.τ):=by
 obtain ⟨⟨c,T,hc,hR⟩,hw⟩:=I.box i v hb
 obtain ⟨fs,I1,_⟩:=I.loosen true i
 have hcon:(σ.loosen true i).content ⟨true,i,[]⟩=some v:=hb
 obtain ⟨G2,I2,hs2⟩:=I1.recontent (p:=⟨true,i,[]⟩) (c':=⟨v.τ,v.ag,v.x,v.tg.map Tag.alias⟩) hcon rfl rfl (l:=c.toList) (b:=some (G.ad i,0)) (f':=[]) (fi:=G.fb i)
  (by simp [Z09,hc]) (by exact hR.alias (Ghost.St_Al I)) (by simp [Ghost.fpOf])
 have hst:((σ.loosen true i).setContent ⟨true,i,[]⟩ ⟨v.τ,v.ag,v.x,v.tg.map Tag.alias⟩).putBox i none=(σ.loosen true i).putBox i none:=by
  simp only [State.setContent,State.putBox,Z1z]
 obtain ⟨fs3,I3,_⟩:=I2.drop (σ':=(σ.loosen true i).putBox i none) (by simp [State.setContent,State.putBox]) (λj=> .inl rfl) (λj=>by
  rw [<-hst,Z0E]
  split
  ·exact .inr rfl
  ·exact .inl rfl)
 refine ⟨_,I3,((Sim.fs G fs).trans hs2).trans (Sim.fs _ fs3),hw,⟨c,T,hc,hR⟩,λj hj=> ?_⟩
 rw [Z0i]
 exact I.ptrFix hb j hj
theorem Z3t (i j:Nat):(σ.empty i).slot j=if i=j/\i<σ.slots.length then .dead else (σ.loosen false i).slot j:=by
 unfold State.empty State.put State.slot
 simp only []
 rw [Z0U]
 simp [State.loosen,Z0b]
theorem Inv.takeSlot (I:Inv W0 M σ a w G xs) {i:Nat} {v:TVal} (hb:σ.slot i= .val v) :
  ∃ G',Inv W0 M (σ.empty i) a w G' (G.fs i++xs)/\Sim G G'/\Z0f v.ag (a.tmps.getD i undef)/\Rp w G.F G.St G.Al v.τ v.tg (Z02 (a.tmps.getD i undef)) v.x (G.fs i):=by
 have hi:=Z0W (σ:=σ) (i:=i) (by rw [hb];simp)
 have hS:=I.slot i hi
 rw [hb] at hS
 obtain ⟨hsh,hR⟩:=hS
 have hcon:σ.content ⟨false,i,[]⟩=some v:=by simp [State.content,hb]
 obtain ⟨G2,I2,hs2⟩:=I.recontent (p:=⟨false,i,[]⟩) (c':=⟨v.τ,v.ag,v.x,v.tg.map Tag.alias⟩) hcon rfl rfl (l:=Z02 (a.tmps.getD i undef)) (b:=none) (f':=[]) (fi:=G.fs i)
  rfl (by exact hR.alias (Ghost.St_Al I)) (by simp [Ghost.fpOf])
 have hsl:∀ j,(σ.setContent ⟨false,i,[]⟩ ⟨v.τ,v.ag,v.x,v.tg.map Tag.alias⟩).slot j=if i=j then .val ⟨v.τ,v.ag,v.x,v.tg.map Tag.alias⟩ else σ.slot j:=by
  intro j
  simp only [State.setContent,hb]
  show Z0v .dead (Z0I σ.slots i _) j=_
  rw [Z0U]
  by_cases h:i=j<;>simp [h,hi,State.slot]
  intro h2;omega
 obtain ⟨fs1,I3,_⟩:=I2.loosen false i
 obtain ⟨fs3,I4,_⟩:=I3.drop (σ':=σ.empty i) (by simp [State.setContent,State.empty,State.put,State.loosen,Z0b,hb,Z0G]) (λj=>by
  rw [Z3t,Z0i,Z0i,hsl]
  by_cases h:i=j
  ·simp [h,hi];right;intro hh;omega
  ·simp [h]) (λj=>by
  left
  show σ.boxAt j=_
  simp only [State.setContent,hb]
  rfl)
 exact ⟨_,I4,(hs2.trans (Sim.fs _ fs1)).trans (Sim.fs _ fs3),hsh,hR⟩
structure Wrote (w w':World) (g:Nat):Prop where
 size:w'.heap.size=w.heap.size
 old:∀ b,b≠g->w'.heap[b]? = w.heap[b]?
 os:w'.os=w.os
 tape:w'.tape=w.tape
 output:w'.output=w.output
theorem Inv.patch (I:Inv W0 M σ a w G xs) {g:Nat} {z:Who} (hg:G.who g=some z) (hz:z= .x\/∃ i,z= .a i/\σ.boxAt i=none) (hp:Wrote w w' g) (n:Nat)
  (hN:σ.noN\/(∃ i,z= .a i)\/Z07 w G.F w' (λb=>if b=g then n else G.F b) g) :
  let G':Ghost:={ G with F:=λb=>if b=g then n else G.F b }
  Inv W0 M σ a w' G' xs/\((∀ i,z≠ .a i)->Z07 w G.F w' G'.F g->Calmer w G w' G') /\
   ∀ (τ:Ty) (tg:List Tag) (cs:List Value) (x:El τ) (fp:List Nat),Rp w G.F G.St G.Al τ tg cs x fp->g ∉ fp->((∀ t∈tg,t.isN=false)\/(∃ i,z= .a i)\/Z07 w G.F w' G'.F g)->Rp w' G'.F G'.St G'.Al τ tg cs x fp:=by
 intro G'
 have hk:∀ b,b≠g->Z07 w G.F w' G'.F b/\G'.F b=G.F b:=by
  intro b hb
  have:G'.F b=G.F b:=if_neg hb
  exact ⟨Z07.of_block (hp.old b hb) (by rw [this];exact Nat.le_refl _),this⟩
 have hA:G'.Al=G.Al:=rfl
 have hSg:∀ b,G.St b->b≠g:=λb hb h=>by rw [h] at hb;rw [(I.st g hb).1] at hg;cases hg
 have hAl:∀ b,G.Al b->(∃ i,z= .a i)->b≠g:=λb hb ⟨i,hi⟩ h=>by rw [h] at hb;exact hb.1 i (by rw [hg,hi])
 have hN':∀ {b},((∃ i,z= .a i)\/Z07 w G.F w' G'.F g)->G.Al b->Z07 w G.F w' G'.F b:=by
  intro b h hb
  by_cases hbg:b=g
  ·rcases h with h | h
   ·exact absurd hbg (hAl b hb h)
   ·rw [hbg];exact h
  ·exact (hk b hbg).1
 have hS:Same σ w G w' G':=
  ⟨rfl,rfl,rfl,λ_ _ h _=>h,λ_ _ h=>h,λb h=>h,λb h=>(hk b (hSg b h)).1,λb z' h h1 h2=>hk b (λhbg=>by
    rw [hbg,hg] at h;cases h
    rcases hz with rfl | ⟨i,rfl,_⟩
    ·exact h2 rfl
    ·exact h1 i rfl),λi v h=>hp.old _ (λhbg=>by
    have hw:=(I.box i v h).2
    rw [hbg,hg] at hw
    cases hw
    rcases hz with hz | ⟨j,hz,hj⟩
    ·cases hz
    ·cases hz;rw [hj] at h;cases h),hN.imp id λh b _ hb=>hN' h hb⟩
 refine ⟨?_,?_,?_⟩
 ·refine I.world hS (λb hb=>⟨(I.st b hb).1,by rw [hp.size];exact (I.st b hb).2⟩) (λb z' hb=>by rw [hp.size];exact I.lt b z' hb) ?_ I.whoX I.nodX ⟨λb hb hM=> ?_,I.org.St,I.org.St'⟩
  rotate_left
  ·by_cases hbg:b=g
   ·rcases (I.lt g z hg).2 with h | h
    ·rw [hbg] at hb;omega
    ·exact absurd (hbg ▸ h) hM
   ·rw [(hk b hbg).2];exact I.org.F b hb hM
  refine ⟨hp.os.trans I.ext.os,hp.tape.trans I.ext.tape,hp.output.trans I.ext.output,by rw [hp.size];exact I.ext.size,λb hb hM=> ?_⟩
  rw [hp.old b (λhbg=> ?_)]
  ·exact I.ext.block b hb hM
  ·rcases (I.lt g z hg).2 with h | h
   ·rw [hbg] at hb;omega
   ·exact hM (hbg ▸ h)
 ·intro hz' hK
  refine ⟨λw2 hc=>⟨λb hb ha o n' cs hn h1=> ?_,λi b hb=> ?_⟩,λw2 hc i b hb=> ?_⟩
  ·have hkb:=hN' (.inr hK) ha
   refine hc.1 b (by rw [hp.size];exact hb) ha o n' cs (Nat.le_trans hn hkb.1) (hkb.2.1 o n' cs hn h1)
  ·rw [hc.2 i b hb]
   exact hp.old b (λhbg=>by rw [hbg,hg] at hb;cases hb;exact hz' i rfl)
  ·rw [hc i b hb]
   exact hp.old b (λhbg=>by rw [hbg,hg] at hb;cases hb;exact hz' i rfl)
 ·intro τ tg cs x fp h hgf hn
  refine h.pres hS.St (λb _ h=>h) hS.S (λb hb=>hk b (λhbg=>hgf (hbg ▸ hb))) ?_
  exact hn.imp id λh b _ hb=>hN' h hb
end
end Go.PI
namespace Go.PI
section
variable {W0:Base} {M:Nat->Prop} {σ:State} {a:Act} {w w':World} {G:Ghost} {xs:List Nat} {P:Program} {tys:List (TypeId×Ty×List TypeId)}
theorem Inv.freeze {fv:List Nat} (I:Inv W0 M σ a w G (fv++xs)) :
  ∃ G',Inv W0 M σ a w G' xs/\G'.F=G.F/\G'.ad=G.ad/\G'.Al=G.Al/\(∀ b k,G'.who b=some (.a k)↔G.who b=some (.a k))/\(∀ b,G'.St b↔G.St b\/b∈fv) /\
   (∀ (τ:Ty) (tg:List Tag) (cs:List Value) (x:El τ) (fp:List Nat),Rp w G.F G.St G.Al τ tg cs x fp->Rp w G'.F G'.St G'.Al τ tg cs x fp):=by
 classical
 let G':Ghost:={ G with St:=λb=>G.St b\/b∈fv,who:=λb=>if b∈fv then none else G.who b }
 have hfv:∀ b∈fv,G.who b=some .x:=λb hb=>I.whoX b (List.mem_append_left _ hb)
 have hbx:∀ b k,G'.who b=some (.a k)↔G.who b=some (.a k):=by
  intro b k
  show (if b∈fv then none else G.who b)=some (.a k)↔_
  by_cases hb:b∈fv
  ·rw [hfv b hb];simp [hb]
  ·simp [hb]
 have hne:∀ b z,G.who b=some z->z≠ .x->G'.who b=some z:=by
  intro b z h hz
  show (if b∈fv then none else G.who b)=some z
  rw [if_neg (λhm=>by rw [hfv b hm] at h;cases h;exact hz rfl)]
  exact h
 have hA:G'.Al=G.Al:=by
  funext b
  apply propext
  show ((∀ k,(if b∈fv then none else G.who b)≠some (.a k))/\((if b∈fv then none else G.who b)=none->(G.St b\/b∈fv)))↔_
  by_cases hb:b∈fv
  ·simp only [hb,if_true]
   have:=hfv b hb
   constructor
   ·intro _;exact ⟨λk=>(by rw [this];simp),λh=>(by rw [this] at h;cases h)⟩
   ·intro _;exact ⟨λk=>(by simp),λh=>(by simp)⟩
  ·simp only [hb,if_false,or_false];rfl
 have hS:Same σ w G w G':=⟨rfl,rfl,rfl,hne,λb _ h=>by rw [hA];exact h,λb h=> .inl h,λb h=>Z07.refl _ _ _,λb z h _ _=>⟨Z07.refl _ _ _,rfl⟩,λ_ _ _=>rfl,.inr λb _ _=>Z07.refl _ _ _⟩
 refine ⟨G',?_,rfl,rfl,hA,hbx,λb=>Iff.rfl,λτ tg cs x fp h=>h.pres hS.St hS.Al hS.S (λb _=>⟨Z07.refl _ _ _,rfl⟩) (.inr λb _ _=>Z07.refl _ _ _)⟩
 refine I.world hS (λb hb=> ?_) (λb z hb=> ?_) I.ext (λb hb=> ?_) (List.nodup_append.1 I.nodX).2.1 ⟨I.org.F,λb hb=> .inl (I.org.St b hb),λb hb=>hb.elim (I.org.St' b) λh=> .inr (I.lt b _ (hfv b h)).2⟩
 ·rcases hb with hb | hb
  ·have:=I.st b hb
   refine ⟨?_,this.2⟩
   show (if b∈fv then none else G.who b)=none
   split
   ·rfl
   ·exact this.1
  ·exact ⟨if_pos hb,(I.lt b _ (hfv b hb)).1⟩
 ·change (if b∈fv then none else G.who b)=some z at hb
  split at hb
  ·cases hb
  ·exact I.lt b z hb
 ·show (if b∈fv then none else G.who b)=_
  rw [if_neg (λhm=>(List.nodup_append.1 I.nodX).2.2 b hm b hb rfl)]
  exact I.whoX b (List.mem_append_right _ hb)
def Z1p (P:Program) (W0:Base) (M:Nat->Prop) (o:Oper) (a:Act) (w:World) (G:Ghost) (xs:List Nat) (σ':State) (tv:TV) (tame:Bool):Prop:=
 ∃ v w' G' fp n,(execOp a.eval o).run P w= .ok n w'/\(n= .value v\/(n= .skip/\v=undef))/\Inv W0 M σ' a w' G' (fp++xs)/\Z01 σ' G' a w' tv v fp/\(tame=true->Calmer w G w' G')
section
variable {R:Type} {Γ:Env R} {d:Option Nat} {type:TypeId} {o:Oper} {k:TV->State->Option R} {r:R}
theorem Z7R (I:Inv W0 M σ a w G xs) {x:Operand} (ho:o.op= .assign x) (h:Z0N Γ d type σ k o.op=some r):∃ tv σ',k tv σ'=some r/\Z1p P W0 M o a w G xs σ' tv true:=by
 rw [ho] at h
 simp only [Z0N] at h
 have hrun:(execOp a.eval o).run P w= .ok (.value (a.eval x)) w:=by rw [Z03 ho];rfl
 have hp:=Z0w I x
 have hsame:∀ tv,σ.peek x=tv->(∀ v ags,tv≠ .tup v ags)->k tv σ=some r->∃ tv σ',k tv σ'=some r/\Z1p P W0 M o a w G xs σ' tv true:=by
  intro tv htv hnt hk
  rw [htv] at hp
  exact ⟨tv,σ,hk,a.eval x,w,G,[],_,hrun,.inl rfl,I,hp hnt,λ_=>Calmer.refl _ _⟩
 split at h
 ·rename_i v hpk;exact hsame _ hpk (by simp) h
 ·rename_i p ag hpk
  split at h
  ·rename_i u hu
   split at h
   ·rename_i v σ' ht
    obtain ⟨fp,G',I',hs,hτ,hR,hsh⟩:=Z10 I ht
    exact ⟨_,_,h,a.eval x,w,G',fp,_,hrun,.inl rfl,I',⟨hsh,hR⟩,λ_=>hs.calmer⟩
   ·cases h
  ·cases h
 ·rename_i hpk
  split at h
  ·rename_i e ht
   refine ⟨_,_,h,a.eval x,w,G,[],_,hrun,.inl rfl,I,?_,λ_=>Calmer.refl _ _⟩
   rw [hpk] at hp
   obtain ⟨hv,_⟩:=hp (by simp)
   rw [hv]
   exact ⟨rfl,.O,none,0,rfl,rfl,Nat.le_refl _,.inl ⟨rfl,rfl,rfl,rfl,rfl⟩⟩
  ·cases h
 ·cases h
 ·cases h
 ·cases h
 ·rename_i h1 h2 h3 h4 h0 h5
  exact hsame _ rfl (λv ags hh=>h5 v ags hh) h
theorem Z91 (i:Nat) (tv:TV) (v:Value) (Q:Place->Value->Prop):Z1u i (TV.unpoint i (TV.loosen true i tv)) v Q:=by
 cases tv with
 | ref p ag=>
  simp only [TV.loosen]
  split
  ·trivial
  ·rename_i hc;simpa [Z1u,TV.unpoint] using hc
 | eref p=>
  simp only [TV.loosen]
  split
  ·trivial
  ·rename_i hc;simpa [Z1u,TV.unpoint] using hc
 | ptr p=>
  simp only [TV.loosen,TV.unpoint]
  split
  ·trivial
  ·rename_i hc
   intro hr
   simp [hr] at hc
 | clos f ps=>
  simp only [TV.loosen,TV.unpoint]
  split
  ·trivial
  ·rename_i hc
   intro k hk hr
   exact absurd (List.any_eq_true.2 ⟨ps[k],List.getElem_mem _,by simp [hr]⟩) hc
 | _=>trivial
theorem Z68 {fv:List Nat} (I:Inv W0 M σ a w G (fv++xs)) {i:Nat} (hin:i<σ.slots.length) {v:TVal} {t:TypeId} {c:Array Value} (hR:Rp w G.F G.St G.Al v.τ v.tg c.toList v.x fv) (hp:Pushed w w' (.cells c t (0,0))) :
  ∃ G',Inv W0 M (((σ.loosen true i).unpoint i).putBox i (some v)) a w' G' xs/\Calmer w G w' G' /\
   Z01 (((σ.loosen true i).unpoint i).putBox i (some v)) G' a w' (.ptr ⟨true,i,[]⟩) (.pointer (some ⟨w.heap.size,0,none⟩)) []:=by
 obtain ⟨fs1,I1,_⟩:=I.loosen true i
 obtain ⟨fs2,I2,_⟩:=I1.unpoint i
 obtain ⟨I3,hcalm,hlift⟩:=I2.grow hp (z:= .a i) 0 (ys:=[]) (.inr ⟨⟨i,rfl⟩,rfl⟩)
 have hcalm:Calmer w G w' (Ghost.grow { G with fs:=fs2 } w.heap.size (.a i) 0):=((Sim.fs G fs2).calmer).trans hcalm
 have hR':=hlift _ _ _ _ _ hR
 by_cases hi:i<σ.boxes.length
 ·obtain ⟨G',I4,gF,gS,gA,gb,gad⟩:=Inv.addBox (fv:=fv) (xs:=xs) (i:=i) (g:=w.heap.size) (v:=v) I3 (by simpa [State.loosen,Z0b,State.unpoint,Z0b] using hi) hp.new (if_pos rfl) hR' (λj hj=>by
   rw [Z5j,Z0i]
   exact Z91 _ _ _ _) (.inl (by simpa [State.loosen,Z0b,State.unpoint,Z0b] using hin))
  refine ⟨G',I4,hcalm.trans ?_,⟨rfl,rfl,rfl,.inr ⟨c.toList,(w.heap.size,0),⟨v.τ,c.toList,some (w.heap.size,0),?_,?_,Z0Q _ _ _ _⟩,rfl⟩⟩⟩
  ·exact ⟨λw2 hc=>⟨λb hb ha=>(by have:=hc.1 b hb (by rw [gA];exact ha);rw [gF] at this;exact this),λj b hb=>hc.2 j b ((gb b j).2 hb)⟩,λw2 hc j b hb=>hc j b ((gb b j).2 hb)⟩
  ·rw [Z1q,Z0E]
   simp [State.loosen,Z0b,State.unpoint,Z0b,hi]
  ·simp only [Z09,gad,if_true,hp.new]
 ·have he:((σ.loosen true i).unpoint i).putBox i (some v)=(σ.loosen true i).unpoint i:=by
   unfold State.putBox
   rw [Z6v]
   simp [State.loosen,Z0b,State.unpoint,Z0b];omega
  rw [he]
  refine ⟨_,I3.sub (λb hb=>by simp [hb]) (List.nodup_append.1 I.nodX).2.1,hcalm,⟨rfl,rfl,rfl,.inl ?_⟩⟩
  rw [Z1q]
  have:((σ.loosen true i).unpoint i).boxAt i=none:=Z2g _ _ (by simp [State.loosen,Z0b,State.unpoint,Z0b];omega)
  rw [this];rfl
theorem Z8m (hT:Z0e P Γ.tys) (I:Inv W0 M σ a w G xs) {t:TypeId} (ho:o.op= .alloc t) (h:Z0N Γ d type σ k o.op=some r):∃ tv σ',k tv σ'=some r/\Z1p P W0 M o a w G xs σ' tv true:=by
 rw [ho] at h
 simp only [Z0N] at h
 split at h
 ·rename_i i τ ht
  split at h
  case isFalse=>cases h
  rename_i hin
  obtain ⟨l,hta,_⟩:=Z0S ht
  obtain ⟨inf,z,hi,hs,_,_,hz,hzc,_⟩:=(hT _ _ _ hta).info
  have hrun:(execOp a.eval o).run P w= .ok (.value (.pointer (some ⟨w.heap.size,0,none⟩))) (w.alloc (.cells z.cells t)):=by
   rw [Z03 ho]
   simp [execOp,Instr.alloc,zeroValue,typeInfo,hi,hz,newVar,newRow]
  have hR:Rp w G.F G.St G.Al τ (List.replicate (Z06 τ) .O) z.cells.toList (zero τ) []:=by rw [hzc];exact Z30 τ
  obtain ⟨G',I',hc,hsl⟩:=Z68 (fv:=[]) (i:=i) (v:=⟨τ,false,zero τ,List.replicate (Z06 τ) .O⟩) (by simpa using I) hin hR (Pushed.alloc w _)
  exact ⟨_,_,h,_,_,G',[],_,hrun,.inl rfl,by simpa using I',hsl,λ_=>hc⟩
 ·cases h
theorem Z8x {np:Nat} {x:Operand} {τ:Ty} {i:Nat} (h:Z8w np σ x τ=some i):x= .tmp i/\∃ u,σ.slot i= .val u/\u.τ=τ:=by
 unfold Z8w at h
 split at h
 ·split at h
  ·rename_i u hs
   split at h
   ·rename_i hc
    simp only [Bool.and_eq_true,decide_eq_true_eq] at hc
    cases h
    exact ⟨rfl,u,hs,hc.1.2⟩
   ·cases h
  ·cases h
 ·cases h
theorem Z9d (I:Inv W0 M σ a w G xs) {t:TypeId} {x:Operand} (ho:o.op= .box t x) (h:Z0N Γ d type σ k o.op=some r):∃ tv σ',k tv σ'=some r/\Z1p P W0 M o a w G xs σ' tv true:=by
 rw [ho] at h
 simp only [Z0N] at h
 split at h
 ·rename_i i τ ht
  have hrun:(execOp a.eval o).run P w= .ok (.value (.pointer (some ⟨w.heap.size,0,none⟩))) (w.alloc (.cells (a.eval x).cells t)):=by
   rw [Z03 ho]
   simp [execOp,Instr.box,newVar,newRow]
  split at h
  ·rename_i p hpin
   obtain ⟨rfl,u,hsl,rfl⟩:=Z8x hpin
   have hs:=I.slot p (Z0W (by rw [hsl];simp))
   rw [hsl] at hs
   obtain ⟨hsh,hR⟩:=hs
   have hev:a.eval (.tmp p)=a.tmps.getD p undef:=rfl
   have hlen:=hR.len.1
   have hp:=Pushed.alloc w (.cells (a.eval (.tmp p)).cells t (0,0))
   obtain ⟨I3,hc3,_⟩:=I.grow hp (z:= .x) (size u.τ) (ys:=[w.heap.size]) (.inl ⟨rfl,rfl⟩)
   obtain ⟨G4,I4,gF,gad,gA,gb,gS,_⟩:=I3.freeze
   refine ⟨_,_,h,_,_,G4,[],_,hrun,.inl rfl,by simpa using I4,⟨rfl,rfl,w.heap.size,0,u.τ,rfl,Z1H _,hlen,?_,(gS _).2 (.inr (by simp)),?_⟩,λ_=>hc3.trans ?_⟩
   ·unfold Z05
    rw [hp.new]
    simp only []
    have hcells:(a.eval (.tmp p)).cells.toList=Z02 (a.tmps.getD p undef):=by rw [hsh.cells,hev]
    have hsz:(a.eval (.tmp p)).cells.size=size u.τ:=by
     rw [<-hlen,<-hcells];simp
    rw [if_pos (by omega),hcells,Z4E]
   ·rw [gF]
    show 0+size u.τ<=(if w.heap.size=w.heap.size then size u.τ else G.F w.heap.size)
    rw [if_pos rfl];omega
   ·exact ⟨λw2 hc=>⟨λb hb ha=>(by have:=hc.1 b hb (by rw [gA];exact ha);rw [gF] at this;exact this),λj b hb=>hc.2 j b ((gb b j).2 hb)⟩,λw2 hc j b hb=>hc j b ((gb b j).2 hb)⟩
  ·split at h
   ·rename_i v σ' htk
    split at h
    case isFalse=>cases h
    rename_i hin
    obtain ⟨fp,G1,I1,hs,hτ,hR,hsh⟩:=Z10 I htk
    rw [hsh.cells] at hR
    obtain ⟨G',I',hc,hsl⟩:=Z68 (i:=i) (v:=v) I1 hin hR (Pushed.alloc w _)
    exact ⟨_,_,h,_,_,G',[],_,hrun,.inl rfl,by simpa using I',hsl,λ_=>hs.calmer.trans hc⟩
   ·cases h
 ·cases h
end
end
end Go.PI
