/-
  Program's code interpreted over typed values; printed texts; plain laws. No conditions.
-/
import Derived.Calls
import Derived.Orders
import GoSem.Dispatch
import Derived.Laws.Append
import Derived.Laws.CopyRow
import Derived.Laws.BytesString
import Derived.Laws.Concat
import Derived.Tactics
import Derived.WideLaws
import Derived.Laws.Strings
import Derived.Laws.Cover1
import Derived.Laws.StructEq
import Derived.Laws.IdiomStrings
import Derived.Laws.MakeOwn
set_option linter.unusedVariables false
set_option linter.unusedSimpArgs false
namespace Go.PI
noncomputable section
inductive Ty where
 | int (k:IntKind) | bool | str | unit
 | slice (e:Ty) | pair (a b:Ty)
 deriving DecidableEq
@[reducible] def El:Ty->Type
 | .int _=>Int
 | .bool=>Bool
 | .str=>ByteArray
 | .unit=>Unit
 | .slice e=>List (El e)
 | .pair a b=>El a×El b
def zero:(τ:Ty)->El τ
 | .int _=>(0:Int)
 | .bool=>false
 | .str=>(⟨#[]⟩:ByteArray)
 | .unit=>()
 | .slice _=>[]
 | .pair a b=>(zero a,zero b)
def size:Ty->Nat
 | .unit=>0
 | .pair a b=>size a+size b
 | _=>1
def Z06:Ty->Nat
 | .slice _=>1
 | .pair a b=>Z06 a+Z06 b
 | _=>0
inductive Tag where
 | O | PS | PN | S | N
 deriving DecidableEq
def Tag.own:Tag->Bool
 | .O | .PS | .PN=>true
 | _=>false
def Tag.alias:Tag->Tag
 | .S=> .S
 | _=> .N
def Tag.inner:Tag->Tag
 | .O=> .O
 | .PS | .S=> .S
 | .PN | .N=> .N
def Tag.meet:Tag->Tag->Tag
 | .O,t=>t
 | t,.O=>t
 | .S,.S=> .S
 | _,_=> .N
def Tag.over:Tag->Tag
 | .O=> .O
 | .S | .PS=> .PS
 | .N | .PN=> .PN
def Tag.isO:Tag->Bool
 | .O=>true
 | _=>false
def Tag.isN:Tag->Bool
 | .N | .PN=>true
 | _=>false
def Tag.isS:Tag->Bool
 | .S=>true
 | _=>false
def Tag.freeze:Tag->Tag
 | .O | .PS | .S=> .S
 | _=> .N
structure TVal where
 τ:Ty
 ag:Bool
 x:El τ
 tg:List Tag
inductive Step where
 | fst | snd | idx (i:Nat)
 deriving DecidableEq
structure Place where
 box:Bool
 root:Nat
 path:List Step
 deriving DecidableEq
inductive TV where
 | dead
 | un
 | nil
 | val (v:TVal)
 | tup (v:TVal) (ags:List Bool)
 | ref (p:Place) (ag:Bool)
 | ptr (p:Place)
 | eptr (v:TVal) (t:Tag)
 | eref (p:Place)
 | tref (t:Nat) (ags:List Bool)
 | sptr (r:Nat) (τ:Ty) (p:List Step)
 | clos (fn:FuncId) (caps:List Place)
 | sclos (fn:FuncId) (τs:List Ty) (v:TVal)
structure State where
 slots:List TV
 boxes:List (Option TVal)
def Z0u {α:Type} (d:α) (l:List α):Nat->α:=
 List.rec (motive:=λ_=>Nat->α) (λ_=>d) (λa _ b n=>Nat.rec (motive:=λ_=>α) a (λm _=>b m) n) l
def Z0H {α:Type} (l:List α):Nat->α->List α:=
 List.rec (motive:=λ_=>Nat->α->List α) (λ_ _=>[]) (λa l b n v=>Nat.rec (motive:=λ_=>List α) (v::l) (λm _=>a::b m v) n) l
def Z52 {α β:Type} (f:α->β) (l:List α):List β:=List.rec (motive:=λ_=>List β) [] (λa _ b=>f a::b) l
theorem Z0x {α:Type} (d:α) (i:Nat):Z0u d [] i=d:=rfl
theorem Z0s {α:Type} (d a:α) (l:List α):Z0u d (a::l) 0=a:=rfl
theorem Z0p {α:Type} (d a:α) (l:List α) (n:Nat):Z0u d (a::l) (n+1)=Z0u d l n:=rfl
theorem Z2v {α:Type} (i:Nat) (v:α):Z0H [] i v=[]:=rfl
theorem Z29 {α:Type} (a v:α) (l:List α):Z0H (a::l) 0 v=v::l:=rfl
theorem Z1i {α:Type} (a v:α) (l:List α) (n:Nat):Z0H (a::l) (n+1) v=a::Z0H l n v:=rfl
theorem Z0b {α β:Type} (f:α->β):(l:List α)->Z52 f l=l.map f
 | []=>rfl
 | a::l=>congrArg (f a:: ·) (Z0b f l)
def State.slot (σ:State) (i:Nat):TV:=Z0u .dead σ.slots i
def State.boxAt (σ:State) (i:Nat):Option TVal:=Z0u none σ.boxes i
def State.putBox (σ:State) (i:Nat) (v:Option TVal):State:={ σ with boxes:=Z0H σ.boxes i v }
def Z2H (τ:Ty) (v:TVal):Option (El τ):=
 if h:v.τ=τ then some (h ▸ v.x) else none
def Z0d:Ty->List Step->Option Ty
 | τ,[]=>some τ
 | .pair a _,.fst::p=>Z0d a p
 | .pair _ b,.snd::p=>Z0d b p
 | _,_=>none
def Z04:(τ:Ty)->El τ->List Tag->List Step->Option TVal
 | τ,x,tg,[]=>some ⟨τ,false,x,tg⟩
 | .pair a b,x,tg,.fst::p=>Z04 a x.1 (tg.take (Z06 a)) p
 | .pair a b,x,tg,.snd::p=>Z04 b x.2 (tg.drop (Z06 a)) p
 | .slice e,x,tg,.idx i::p=>Z04 e (x.getD i (zero e)) (List.replicate (Z06 e) (tg.headD .N).inner) p
 | _,_,_,_=>none
def Z0J:(τ:Ty)->El τ->List Tag->List Step->TVal->Option (El τ×List Tag)
 | τ,_,_,[],v=>if h:v.τ=τ then some (h ▸ v.x,v.tg) else none
 | .pair a b,x,tg,.fst::p,v=>(Z0J a x.1 (tg.take (Z06 a)) p v).map λr=>((r.1,x.2),r.2++tg.drop (Z06 a))
 | .pair a b,x,tg,.snd::p,v=>(Z0J b x.2 (tg.drop (Z06 a)) p v).map λr=>((x.1,r.1),tg.take (Z06 a)++r.2)
 | .slice e,x,tg,.idx i::p,v=>(Z0J e (x.getD i (zero e)) (List.replicate (Z06 e) (tg.headD .N).inner) p v).map λr=>(x.set i r.1,tg)
 | _,_,_,_,_=>none
def Z08:List Step->Bool
 | []=>true
 | .idx _::_=>false
 | _::p=>Z08 p
def State.content (σ:State) (p:Place):Option TVal:=
 match p.box with
 | true=>σ.boxAt p.root
 | false=>match σ.slot p.root with | .val v=>some v | .tup v _=>some v | _=>none
def State.getAt (σ:State) (p:Place):Option TVal:=(σ.content p).bind λv=>Z04 v.τ v.x v.tg p.path
def State.setContent (σ:State) (p:Place) (v:TVal):State:=
 match p.box with
 | true=>{ σ with boxes:=Z0H σ.boxes p.root (some v) }
 | false=>match σ.slot p.root with
  | .val _=>{ σ with slots:=Z0H σ.slots p.root (.val v) }
  | .tup _ ags=>{ σ with slots:=Z0H σ.slots p.root (.tup v ags) }
  | _=>σ
def State.setAt (σ:State) (p:Place) (u:TVal):Option State:=
 (σ.content p).bind λv=>(Z0J v.τ v.x v.tg p.path u).map λr=>σ.setContent p ⟨v.τ,v.ag,r.1,r.2⟩
def TVal.alias (v:TVal):TVal:={ v with tg:=v.tg.map Tag.alias }
def TVal.anyOwn (v:TVal):Bool:=v.tg.any Tag.own
def TVal.freeze (v:TVal):TVal:={ v with tg:=v.tg.map Tag.freeze }
def TVal.allS (v:TVal):Bool:=v.tg.all Tag.isS
def TVal.allO (v:TVal):Bool:=v.tg.all Tag.isO
def TVal.noN (v:TVal):Bool:=v.tg.all λt=> !t.isN
def TV.loosen (box:Bool) (b:Nat):TV->TV
 | .ref p ag=>if p.box==box&&p.root==b then .dead else .ref p ag
 | .eref p=>if p.box==box&&p.root==b then .dead else .eref p
 | .tref t ags=>if !box&&t==b then .dead else .tref t ags
 | tv=>tv
def State.loosen (σ:State) (box:Bool) (b:Nat):State:=
 { σ with slots:=Z52 (TV.loosen box b) σ.slots }
def TV.unpoint (b:Nat):TV->TV
 | .ptr p=>if p.root==b then .dead else .ptr p
 | .clos f d=>if d.any (λp=>p.root==b) then .dead else .clos f d
 | tv=>tv
def State.unpoint (σ:State) (b:Nat):State:={ σ with slots:=Z52 (TV.unpoint b) σ.slots }
def TV.isVal:TV->Bool
 | .val _=>true
 | _=>false
def TV.holds:TV->Bool
 | .val v=>v.anyOwn
 | .tup v _=>v.anyOwn
 | _=>false
def State.put (σ:State) (i:Nat) (v:TV):State:=
 { σ with slots:=Z0H (σ.loosen false i).slots i v }
def TV.unmir (i:Nat):TV->TV
 | .sptr r τ p=>if r==i then .dead else .sptr r τ p
 | tv=>tv
def State.unmir (σ:State) (i:Nat):State:={ σ with slots:=Z52 (TV.unmir i) σ.slots }
def State.puto (σ:State) (d:Option Nat) (v:TV):State:=match d with | some i=>(σ.unmir i).put i (TV.unmir i v) | none=>σ
def Z0z (τ:Ty) (x:El τ):TVal:=⟨τ,false,x,[]⟩
def Z36 (σ:State) (p:Place) (ag:Bool):Option TV:=
 match σ.getAt p with
 | some u=>some (if u.allS then .val { u with ag:=ag } else .ref p ag)
 | none=>none
def State.peek (σ:State):Operand->TV
 | .tmp t=>match σ.slot t with
  | .val v=>if v.anyOwn then .ref ⟨false,t,[]⟩ v.ag else .val v
  | tv=>tv
 | .const (.int k n)=> .val (Z0z (.int k) n)
 | .const (.bool b)=> .val (Z0z .bool b)
 | .const (.string s)=> .val (Z0z .str s)
 | .const (.slice none 0 0)=> .nil
 | .func f=> .clos f []
 | _=> .dead
def State.look (σ:State) (o:Operand):Option TVal:=
 match σ.peek o with
 | .val v=>some v
 | .ref p ag=>(σ.getAt p).map λu=>{ u.alias with ag:=ag }
 | _=>none
def State.lookAs (σ:State) (o:Operand) (τ:Ty):Option TVal:=
 match σ.peek o with
 | .nil=>match τ with | .slice e=>some ⟨.slice e,false,[],[.S]⟩ | _=>none
 | _=>σ.look o
def State.slotOf (σ:State):Operand->Option (Nat×TVal)
 | .tmp t=>match σ.slot t with
  | .val u=>if u.anyOwn then some (t,u) else none
  | _=>none
 | _=>none
def State.take (σ:State) (o:Operand) (τ:Ty):Option (TVal×State):=
 match σ.peek o with
 | .nil=>match τ with | .slice e=>some (⟨.slice e,false,[],[.O]⟩,σ) | _=>none
 | .val v=>if v.τ=τ then some (v,σ) else none
 | .ref p ag=>
  match σ.getAt p with
  | some u=>if u.τ=τ then
    (if u.anyOwn&&Z08 p.path then (σ.setAt p u.alias).map λσ'=>({ u with ag:=ag },σ')
     else some ({ u.alias with ag:=ag },σ))
   else none
  | none=>none
 | _=>none
def TV.kill:TV->TV
 | .val v=>if v.noN then .val v else .dead
 | .tup v a=>if v.noN then .tup v a else .dead
 | .eptr v t=>if t.isN then .dead else .eptr v t
 | tv=>tv
def Z2S:Option TVal->Option TVal
 | some v=>if v.noN then some v else none
 | none=>none
def State.kill (σ:State):State:={ slots:=Z52 TV.kill σ.slots,boxes:=Z52 Z2S σ.boxes }
def Z53:(τ:Ty)->El τ->Bool
 | .slice e,x=>List.isEmpty (α:=El e) x
 | .pair a b,x=>Z53 a x.1&&Z53 b x.2
 | _,_=>true
def Z4i:Option TVal->Option TVal
 | some v=>bif v.noN then some v else bif Z53 v.τ v.x then some { v with tg:=v.tg.map λ_=> .S } else some v
 | none=>none
def State.renil (σ:State):State:={ σ with boxes:=Z52 Z4i σ.boxes }
def LIM:Nat:=2147483648
def Z9O:List Ty->Ty
 | []=> .unit
 | [τ]=>τ
 | τ::b=> .pair τ (Z9O b)
inductive Mode where
 | borrow (τ:Ty) (ag:Bool) | consume (τ:Ty) (ag:Bool) | eat (τ:Ty) (ag:Bool) | inout (τ:Ty) (ag:Bool) | ptr (τ:Ty) | clos (fn:FuncId) (caps:List Ty)
 | look (τ:Ty) (ag:Bool) | rptr (τ:Ty) | rclos (fn:FuncId) (caps:List Ty)
structure Sig (R:Type) where
 modes:List Mode
 ags:List Bool
 run:List TVal->List TVal->(List TVal->List TVal->List TVal->Option R)->Option R
structure Env (R:Type) where
 tys:List (TypeId×Ty×List TypeId)
 fns:List (FuncId×Sig R)
 np:Nat:=0
def Z0o {α:Type}:List (Nat×α)->Nat->Option α
 | [],_=>none
 | (m,a)::l,n=>if m==n then some a else Z0o l n
def Z0y (b:List (TypeId×Ty×List TypeId)) (t:TypeId):Option Ty:=(Z0o b t).map (·.1)
def agOf (b:List (TypeId×Ty×List TypeId)) (t:TypeId):Bool:=match Z0o b t with | some (_,l)=> !l.isEmpty | none=>false
def Z0a:(n i:Nat)->List Step
 | 0,_=>[]
 | 1,_=>[]
 | _+2,0=>[.fst]
 | n+2,i+1=> .snd::Z0a (n+1) i
def Z4e (b:List (TypeId×Ty×List TypeId)) (t:TypeId) (i:Nat):Option (List Step):=
 match Z0o b t with
 | some (_,l)=>if i<l.length then some (Z0a l.length i) else none
 | none=>none
def Z2x (b:List (TypeId×Ty×List TypeId)) (t:TypeId) (i:Nat):Bool:=
 match Z0o b t with
 | some (_,l)=>agOf b (l.getD i 0)
 | none=>false
def inb (i:Int) (n:Nat):Bool:=decide (0<=i/\i<(n:Int))
def Z8e (i j:Int) (n:Nat):Bool:=decide (0<=i/\i<=j/\j<=(n:Int))
def sub {α:Type} (l:List α) (i j:Int):List α:=(l.take j.toNat).drop i.toNat
def bt (s:ByteArray) (i:Int):Int:=((s.data.toList.getD i.toNat 0).toNat:Int)
def Z3B (l:List Int):ByteArray:=⟨(l.map λn=>UInt8.ofNat n.toNat).toArray⟩
def Z1n (s:ByteArray):List Int:=s.data.toList.map λb=>(b.toNat:Int)
def mxI (m n:Int):Int:=if n>m then n else m
def mnI (m n:Int):Int:=if n<m then n else m
def lim (n:Nat):Bool:=decide (n<=LIM)
def Z41:(τ:Ty)->El τ->El τ->Option Bool
 | .int _,a,b=>some ((a:Int)==b)
 | .bool,a,b=>some ((a:Bool)==b)
 | .str,a,b=>some (ByteArray.toList a==ByteArray.toList b)
 | .unit,_,_=>none
 | .slice _,_,_=>none
 | .pair s t,a,b=>match Z41 s a.1 b.1,Z41 t a.2 b.2 with | some p,some q=>some (p&&q) | _,_=>none
def Z96 (d:BinOp) (k:IntKind) (a b:Int):Option (Bool×TVal):=
 match d with
 | .add=>some (true,Z0z (.int k) (k.wrap (a+b)))
 | .sub=>some (true,Z0z (.int k) (k.wrap (a-b)))
 | .mul=>some (true,Z0z (.int k) (k.wrap (a * b)))
 | .quo=>some (!decide (b=0),Z0z (.int k) (k.wrap (a.tdiv b)))
 | .rem=>some (!decide (b=0),Z0z (.int k) (a.tmod b))
 | .and=>some (true,Z0z (.int k) (k.wrap ((BitVec.ofInt k.bits a &&& BitVec.ofInt k.bits b).toNat)))
 | .or=>some (true,Z0z (.int k) (k.wrap ((BitVec.ofInt k.bits a ||| BitVec.ofInt k.bits b).toNat)))
 | .xor=>some (true,Z0z (.int k) (k.wrap ((BitVec.ofInt k.bits a ^^^ BitVec.ofInt k.bits b).toNat)))
 | .eql=>some (true,Z0z .bool (a==b))
 | .neq=>some (true,Z0z .bool (a != b))
 | .lss=>some (true,Z0z .bool (decide (a<b)))
 | .leq=>some (true,Z0z .bool (decide (a<=b)))
 | .gtr=>some (true,Z0z .bool (decide (a>b)))
 | .geq=>some (true,Z0z .bool (decide (a>=b)))
 | _=>none
def Z97 (d:BinOp) (a b:ByteArray):Option (Bool×TVal):=
 match d with
 | .add=>some (lim (a.size+b.size),Z0z .str (a++b))
 | .eql=>some (true,Z0z .bool (a.toList==b.toList))
 | .neq=>some (true,Z0z .bool (!(a.toList==b.toList)))
 | .lss=>some (true,Z0z .bool (Op.bytesLess a.toList b.toList))
 | .leq=>some (true,Z0z .bool (Op.bytesLess a.toList b.toList||a.toList==b.toList))
 | .gtr=>some (true,Z0z .bool (!(Op.bytesLess a.toList b.toList||a.toList==b.toList)))
 | .geq=>some (true,Z0z .bool (!(Op.bytesLess a.toList b.toList)))
 | _=>none
def Z98 (d:List (TypeId×Ty×List TypeId)) (t:TypeId) (e:BinOp) (u v:TVal):Option (Bool×TVal):=
 match e,u,v with
 | .shl,⟨.int a,false,m,_⟩,⟨.int _,false,n,_⟩=>some (!decide ((n:Int)<0),Z0z (.int a) (a.wrap ((m:Int) * 2 ^ min (Int.toNat n) a.bits)))
 | .shr,⟨.int a,false,m,_⟩,⟨.int _,false,n,_⟩=>some (!decide ((n:Int)<0),Z0z (.int a) (Int.fdiv m (2 ^ min (Int.toNat n) a.bits)))
 | e,⟨.int a,false,m,_⟩,⟨.int b,false,n,_⟩=>if a=b then Z96 e a m n else none
 | e,⟨.str,false,a,_⟩,⟨.str,false,b,_⟩=>Z97 e a b
 | .eql,⟨.bool,false,a,_⟩,⟨.bool,false,b,_⟩=>if Z0y d t=some .bool/\agOf d t=false then some (true,Z0z .bool ((a:Bool)==b)) else none
 | .neq,⟨.bool,false,a,_⟩,⟨.bool,false,b,_⟩=>if Z0y d t=some .bool/\agOf d t=false then some (true,Z0z .bool (!((a:Bool)==b))) else none
 | _,_,_=>none
def Z42 (b:List (TypeId×Ty×List TypeId)):Nat->TypeId->Bool
 | 0,_=>false
 | n+1,t=>match Z0o b t with
  | some (.int _,[])=>true
  | some (.bool,[])=>true
  | some (.str,[])=>true
  | some (_,a::l)=>Z42 b n a&&l.all (Z42 b n)
  | _=>false
def eqV (d:List (TypeId×Ty×List TypeId)) (t:TypeId) (e:BinOp) (u v:TVal):Option (Bool×TVal):=
 if Z42 d 20 t&&agOf d t&&decide (Z0y d t=some u.τ) then
  (if h:v.τ=u.τ then
   (match Z41 u.τ u.x (h ▸ v.x) with
    | some b=>(match e with
     | .eql=>some (true,Z0z .bool b)
     | .neq=>some (true,Z0z .bool (!b))
     | _=>none)
    | none=>none)
   else none)
 else none
def Z5m:TVal->Option Int
 | ⟨.int .i64,false,n,_⟩=>some n
 | ⟨.int .u8,false,n,_⟩=>some n
 | _=>none
def Z5n (σ:State) (o:Option Operand) (d:Int):Option Int:=
 match o with
 | none=>some d
 | some o=>match σ.look o with | some v=>Z5m v | none=>none
def Z0l (d:List (TypeId×Ty×List TypeId)) (σ:State):Op->Option (Bool×TV)
 | .move x=>match σ.peek x with | .dead=>none | .un=>none | .tup _ ags=>(match x with | .tmp t=>some (true,.tref t ags) | _=>none) | tv=>some (true,tv)
 | .unOp .neg _ x=>match σ.look x with | some ⟨.int a,false,n,_⟩=>some (true,.val (Z0z (.int a) (a.wrap (0-n)))) | _=>none
 | .unOp .not _ x=>match σ.look x with | some ⟨.bool,false,b,_⟩=>some (true,.val (Z0z .bool (!b))) | _=>none
 | .binOp C t x y _=>match σ.look x,σ.look y with | some u,some v=>(if u.ag&&v.ag then eqV d t C u v else Z98 d t C u v).map λr=>(r.1,.val r.2) | _,_=>none
 | .convert s t x=>
  if agOf d s||agOf d t then none else
  match Z0y d s,Z0y d t,σ.look x with
  | some (.int _),some (.int j),some ⟨.int _,false,n,_⟩=>some (true,.val (Z0z (.int j) (j.wrap n)))
  | some .str,some .str,some ⟨.str,false,b,_⟩=>some (true,.val (Z0z .str b))
  | some (.slice (.int .u8)),some .str,some ⟨.slice (.int .u8),false,l,_⟩=>some (true,.val (Z0z .str (Z3B l)))
  | _,_,_=>none
 | .nilCheck x=>match σ.peek x with
  | .ptr p=>if (σ.getAt p).isSome then some (true,.ptr p) else none
  | .eptr v t=>some (true,.eptr v t)
  | .eref p=>if (σ.getAt p).isSome then some (true,.eref p) else none
  | .clos f D=>some (true,.clos f D)
  | .sptr r τ p=>some (true,.sptr r τ p)
  | .sclos f E v=>some (true,.sclos f E v)
  | _=>none
 | .makeFunc (.func f) first h=>
  if first.isEmpty then
   (match (h.toList.map σ.peek).foldr (λtv z=>match tv,z with | .ptr p,some l=>some (p::l) | _,_=>none) (some []) with
    | some l=>some (true,.clos f l)
    | none=>none)
  else none
 | .load t x=>
  match Z0y d t,σ.peek x with
  | some τ,.ptr p=>match σ.getAt p with
   | some v=>if v.τ=τ then (Z36 σ p (agOf d t)).map λtv=>(true,tv) else none
   | none=>none
  | some τ,.eref p=>match σ.getAt p with
   | some v=>if v.τ=τ then (Z36 σ p (agOf d t)).map λtv=>(true,tv) else none
   | none=>none
  | some τ,.eptr v _=>if v.τ=τ then some (true,.val { v.alias with ag:=agOf d t }) else none
  | some τ,.sptr r w p=>match σ.slot r with
   | .val c=>if c.τ=w then (match σ.getAt ⟨false,r,p⟩ with
    | some v=>if v.τ=τ then (Z36 σ ⟨false,r,p⟩ (agOf d t)).map λtv=>(true,tv) else none
    | none=>none) else none
   | _=>none
  | _,_=>none
 | .slice t x B A none=>
  match Z0y d t,σ.look x with
  | some .str,some ⟨.str,false,s,_⟩=>
   if agOf d t then none else (match Z5n σ B 0,Z5n σ A (ByteArray.size s) with
    | some i,some j=>some (Z8e i j (ByteArray.size s),.val (Z0z .str (ByteArray.extract s i.toNat j.toNat)))
    | _,_=>none)
  | some (.slice k),some ⟨.slice e,false,l,tg⟩=>
   if k=e/\agOf d t=false then
    (match Z5n σ B 0,Z5n σ A (List.length (α:=El e) l) with
     | some i,some j=>some (Z8e i j (List.length (α:=El e) l),.val ⟨.slice e,false,sub (α:=El e) l i j,tg⟩)
     | _,_=>none)
   else none
  | _,_=>none
 | .fieldAddr t x i=>
  match Z4e d t i,σ.peek x with
  | some q,.ptr p=>(match σ.getAt p with
   | some u=>if Z0y d t=some u.τ then some (true,.ptr { p with path:=p.path++q }) else none
   | none=>none)
  | some q,.eref p=>(match σ.getAt p with
   | some u=>if Z0y d t=some u.τ then some (true,.eref { p with path:=p.path++q }) else none
   | none=>none)
  | some q,.eptr v g=>if Z0y d t=some v.τ then (Z04 v.τ v.x v.tg q).map λu=>(true,.eptr u g) else none
  | some q,.sptr r w p=>if Z0y d t=Z0d w p then some (true,.sptr r w (p++q)) else none
  | _,_=>none
 | .field t x i=>
  match Z4e d t i,σ.peek x with
  | some q,.ref p true=>(match σ.getAt p with
   | some u=>if Z0y d t=some u.τ then (Z36 σ { p with path:=p.path++q } (Z2x d t i)).map λtv=>(true,tv) else none
   | none=>none)
  | some q,.val ⟨τ,true,y,tg⟩=>if Z0y d t=some τ then (Z04 τ y tg q).map λu=>(true,.val { u with ag:=Z2x d t i }) else none
  | _,_=>none
 | .indexAddr t x i=>
  match Z0y d t,σ.peek x,σ.look i with
  | some (.slice k),.ref p false,some n=>match σ.getAt p,Z5m n with
   | some ⟨.slice e,_,l,_⟩,some n=>if k=e/\agOf d t=false then some (inb n (List.length (α:=El e) l),.eref { p with path:=p.path++[.idx n.toNat] }) else none
   | _,_=>none
  | some (.slice k),.val ⟨.slice e,false,l,tg⟩,some n=>match Z5m n with
   | some n=>if k=e/\agOf d t=false then some (inb n (List.length (α:=El e) l),.eptr ⟨e,false,List.getD (α:=El e) l n.toNat (zero e),List.replicate (Z06 e) (tg.headD .N).inner⟩ (tg.headD .N)) else none
   | none=>none
  | _,_,_=>none
 | .index t x i=>
  match Z0y d t,σ.look x,σ.look i with
  | some .str,some ⟨.str,false,s,_⟩,some n=>match Z5m n with
   | some n=>if agOf d t then none else some (inb n (ByteArray.size s),.val (Z0z (.int .u8) (bt s n)))
   | none=>none
  | _,_,_=>none
 | .extract (.tmp t) i=>
  match σ.slot t with
  | .tup v ags=>if i<ags.length then (Z36 σ ⟨false,t,Z0a ags.length i⟩ (Z0u false ags i)).map λtv=>(true,tv) else none
  | .tref t' ags=>if i<ags.length then (Z36 σ ⟨false,t',Z0a ags.length i⟩ (Z0u false ags i)).map λtv=>(true,tv) else none
  | _=>none
 | .call c=>
  match c.callee,c.args.toList,c.argTypes.toList with
  | .builtin .len,[x],[t]=>
   (match Z0y d t,σ.look x with
    | some .str,some ⟨.str,false,s,_⟩=>if agOf d t then none else some (true,.val (Z0z (.int .i64) (ByteArray.size s:Int)))
    | some (.slice _),some ⟨.slice e,false,l,_⟩=>if agOf d t then none else some (true,.val (Z0z (.int .i64) ((List.length (α:=El e) l:Nat):Int)))
    | _,_=>none)
  | .builtin .max,[x,y],_=>
   (match σ.look x,σ.look y with
    | some ⟨.int a,false,m,_⟩,some ⟨.int b,false,n,_⟩=>if a=b then some (true,.val (Z0z (.int a) (mxI m n))) else none
    | _,_=>none)
  | .builtin .min,[x,y],_=>
   (match σ.look x,σ.look y with
    | some ⟨.int a,false,m,_⟩,some ⟨.int b,false,n,_⟩=>if a=b then some (true,.val (Z0z (.int a) (mnI m n))) else none
    | _,_=>none)
  | _,_,_=>none
 | _=>none
def Z5r (b:List (TypeId×Ty×List TypeId)):Op->Bool
 | .move _ | .unOp .. | .binOp .. | .nilCheck _ | .makeFunc .. | .load .. | .slice .. | .fieldAddr .. | .field .. | .indexAddr .. | .index .. | .extract .. => true
 | .convert _ t _=>match Z0y b t with | some (.slice _)=>false | _=>true
 | .call c=>match c.callee with | .builtin .len | .builtin .max | .builtin .min=>true | _=>false
 | _=>false
section
variable {R:Type}
def Z6X (n:Nat):List (Nat×Operand)->TVal->State->(TVal->State->Option R)->Option R
 | [],v,σ,k=>k v σ
 | (i,o)::rest,v,σ,k=>
  match Z04 v.τ v.x v.tg (Z0a n i) with
  | some u=>match σ.take o u.τ with
   | some (w,σ')=>match Z0J v.τ v.x v.tg (Z0a n i) w with
    | some r=>Z6X n rest ⟨v.τ,v.ag,r.1,r.2⟩ σ' k
    | none=>none
   | none=>none
  | none=>none
def Z4z (v:TVal):Tag:=v.tg.foldr Tag.meet .O
def Z7t (e:Ty):List (Nat×Operand)->Nat->List (El e)->Tag->State->(List (El e)->Tag->State->Option R)->Option R
 | [],_,b,t,σ,k=>k b.reverse t σ
 | (j,o)::rest,i,b,t,σ,k=>
  if i==j then
   match σ.take o e with
   | some (v,σ')=>match Z2H e v with
    | some x=>Z7t e rest (i+1) (x::b) (t.meet (Z4z v)) σ' k
    | none=>none
   | none=>none
  else none
def Z7Y (b:List (TypeId×Ty×List TypeId)) (g d:TypeId) (s x:Operand) (σ:State) (k:TV->State->Option R):Option R:=
 match Z0y b g with
 | some (.slice e)=>
  match σ.take s (.slice e) with
  | some (v,f)=>
   match Z2H (.slice e) v,v.tg with
   | some l,[t]=>
    if t.own&& !v.ag&& !agOf b g then
     match Z0y b d with
     | some (.slice h)=>
      match f.take x (.slice e) with
      | some (u,σ2)=>match Z2H (.slice e) u,u.tg with
       | some m,[t']=>if u.ag||agOf b d then none else
         bif lim (List.length (α:=El e) l+List.length (α:=El e) m) then
         k (.val ⟨.slice e,false,(l:List (El e))++m,[(if Z06 e==0 then Tag.O else t.inner.meet t'.inner).over]⟩) σ2 else none
       | _,_=>none
      | none=>none
     | some .str=>
      match f.look x with
      | some ⟨.str,false,s,_⟩=>if agOf b d then none else (match Z2H (.slice e) ⟨.slice (.int .u8),false,Z1n s,[]⟩ with
       | some m=>bif lim (List.length (α:=El e) l+ByteArray.size s) then k (.val ⟨.slice e,false,(l:List (El e))++m,[.O]⟩) f else none
       | none=>none)
      | _=>none
     | _=>none
    else none
   | _,_=>none
  | none=>none
 | _=>none
structure Args where
 vals:List TVal
 lent:List Nat
 writes:Bool
def Place.whole (p:Place):Bool:=p.box&&p.path.isEmpty
def Z0n:List Mode->List Operand->State->Args->(Args->State->Option R)->Option R
 | [],[],σ,a,k=>k a σ
 | .borrow τ ag::ms,o::b,σ,a,k=>
  match σ.slotOf o with
  | some (t,u)=>
   if u.τ=τ/\u.ag=ag then Z0n ms b { σ with slots:=Z0H σ.slots t (.val u.freeze) } { a with vals:=a.vals++[u.freeze] } k
   else none
  | none=>
   match σ.lookAs o τ with
   | some v=>if v.τ=τ/\v.ag=ag then Z0n ms b σ { a with vals:=a.vals++[v] } k else none
   | none=>none
 | .consume τ ag::ms,o::b,σ,a,k=>
  match σ.take o τ with
  | some (v,σ')=>if v.tg.all Tag.own&&v.noN&&v.ag==ag then Z0n ms b σ' { a with vals:=a.vals++[v],writes:=true } k else none
  | none=>none
 | .eat τ ag::ms,o::b,σ,a,k=>
  match σ.take o τ with
  | some (v,σ')=>if v.allO&&v.ag==ag then Z0n ms b σ' { a with vals:=a.vals++[v],writes:=true } k else none
  | none=>none
 | .ptr τ::ms,o::b,σ,a,k=>
  match σ.peek o with
  | .ptr p=>if p.whole then Z0n ms b σ { a with lent:=a.lent++[p.root],writes:=true } k else none
  | _=>none
 | .clos f e::ms,o::b,σ,a,k=>
  match σ.peek o with
  | .clos g d=>if g==f&&d.length==e.length&&d.all Place.whole then Z0n ms b σ { a with lent:=a.lent++d.map (·.root),writes:=a.writes|| !d.isEmpty } k else none
  | _=>none
 | _,_,_,_,_=>none
def State.boxesAt (σ:State):List Nat->Option (List TVal)
 | []=>some []
 | r::rs=>match σ.boxAt r,σ.boxesAt rs with | some v,some l=>some (v::l) | _,_=>none
def State.putBoxes (σ:State):List Nat->List TVal->State
 | r::rs,v::vs=>((σ.loosen true r).putBox r (some v)).putBoxes rs vs
 | _,_=>σ
def Z4j:List Nat->Bool
 | []=>true
 | a::l=> !l.contains a&&Z4j l
def Tag.back (b:Bool):Tag->Tag
 | .O=> .O
 | .PS=>if b then .PS else .PN
 | .PN=> .PN
 | .S=>if b then .S else .N
 | .N=> .N
def TVal.back (b:Bool) (v:TVal):TVal:={ v with tg:=v.tg.map (Tag.back b) }
def Z23 (fz:Bool) (l:List TVal):List TVal:=if !fz&&l.all TVal.noN then l else l.map λv=>{ v with tg:=v.tg.map λ_=>Tag.S }
def Z2q:List TVal->TVal
 | []=>Z0z .unit ()
 | [v]=>v
 | v::vs=>let u:=Z2q vs;⟨.pair v.τ u.τ,false,(v.x,u.x),v.tg++u.tg⟩
def Mode.isPtr:Mode->Bool
 | .ptr _=>true
 | _=>false
def Mode.isBorrow:Mode->Bool
 | .borrow .. => true
 | _=>false
def Mode.noLend:Mode->Bool
 | .borrow .. | .eat .. | .consume .. => true
 | _=>false
def Mode.isSee:Mode->Bool
 | .look .. => true
 | _=>false
def Mode.isLook:Mode->Bool
 | .look .. | .rptr _ | .rclos .. => true
 | _=>false
def Z5s (τ:Ty) (x:El τ):TVal:=⟨τ,false,x,List.replicate (Z06 τ) .S⟩
def Z4n:List Ty->(τ:Ty)->El τ->Option (List TVal)
 | [],_,_=>some []
 | [d],τ,x=>if τ=d then some [Z5s τ x] else none
 | d::e::f,.pair a b,x=>if a=d then (Z4n (e::f) b x.2).map λl=>Z5s a x.1::l else none
 | _,_,_=>none
def Z6Y:List TVal->TVal
 | []=>Z0z .unit ()
 | [v]=>Z5s v.τ v.x
 | v::vs=>let u:=Z6Y vs;Z5s (.pair v.τ u.τ) (v.x,u.x)
def State.ptrVal (σ:State) (o:Operand):Option TVal:=
 match σ.peek o with
 | .ptr p=>σ.getAt p
 | .eref p=>σ.getAt p
 | .eptr u _=>some u
 | _=>none
def State.placesVal (σ:State):List Place->Option (List TVal)
 | []=>some []
 | p::b=>match σ.getAt p,σ.placesVal b with | some v,some l=>some (v::l) | _,_=>none
def Z19:List Mode->List Operand->State->Option (List TVal)
 | [],[],_=>some []
 | .look τ ag::ms,o::b,σ=>
  match σ.lookAs o τ with
  | some v=>if v.τ=τ/\v.ag=ag then (Z19 ms b σ).map λl=>v::l else none
  | none=>none
 | .rptr τ::ms,o::b,σ=>
  match σ.ptrVal o with
  | some v=>if v.τ=τ then (Z19 ms b σ).map λl=>v::l else none
  | none=>none
 | .rclos f e::ms,o::b,σ=>
  match σ.peek o with
  | .clos g h=>(match σ.placesVal h with
   | some vs=>if g==f&&decide (vs.map (·.τ)=e) then (Z19 ms b σ).map λl=>Z6Y vs::l else none
   | none=>none)
  | .sclos g d v=>if g==f&&decide (d=e) then (Z19 ms b σ).map λl=>v::l else none
  | _=>none
 | _,_,_=>none
def Z1u:List Mode->List TVal->Bool
 | [],[]=>true
 | .rptr τ::ms,v::vs=>decide (v.τ=τ)&&Z1u ms vs
 | _,_=>false
def Z6W (b:Sig R) (h:List Operand) (d:List TVal) (σ:State) (k:TV->State->Option R):Option R:=
 match Z19 (b.modes.take h.length) h σ with
 | some vals=>if Z1u (b.modes.drop h.length) d then b.run (vals++d) [] λf g e=>
   if g.isEmpty&&e.isEmpty&&f.all (λv=>Z06 v.τ==0) then
    (match f with
     | []=>k .dead σ
     | [r]=>k (.val r) σ
     | rs=>k (.tup (Z2q rs) (rs.map (·.ag))) σ) else none
  else none
 | none=>none
def Z89 (d:Sig R) (g:List Operand) (h:List Place) (σ:State) (k:TV->State->Option R):Option R:=
 if (d.modes.drop g.length).length==h.length&&(d.modes.drop g.length).all Mode.isPtr&&h.all Place.whole then
 Z0n (d.modes.take g.length) g σ ⟨[],[],!h.isEmpty⟩ λa l=>
  let b:=a.lent++h.map (·.root)
  if Z4j b&&(!a.writes||a.vals.all λv=>v.noN) then
   match l.boxesAt b with
   | some ext=>if ext.all TVal.noN then d.run a.vals ext λj i f=>
     let e:=a.writes||a.vals.all TVal.noN
     let σ2:=if a.writes then l.renil.kill else l
     let m:=σ2.putBoxes b f
     if i.isEmpty then
      (match j.map (TVal.back e) with
       | []=>k .dead m
       | [r]=>k (.val r) m
       | rs=>k (.tup (Z2q rs) (rs.map (·.ag))) m) else none
    else none
   | none=>none
  else none
 else none
def Z8v (np:Nat) (σ:State) (x:Operand) (τ:Ty):Option Nat:=
 match x with
 | .tmp r=>match σ.slot r with
  | .val u=>if decide (r<np)&&decide (u.τ=τ)&&u.anyOwn then some r else none
  | _=>none
 | _=>none
def Z8O (np d:Nat):Bool:=decide (np<=d)
def State.empty (σ:State) (i:Nat):State:=σ.put i .dead
def State.hold (σ:State) (p:Place):State:=
 match p.box with
 | true=>(σ.loosen true p.root).putBox p.root none
 | false=>σ.empty p.root
def State.refill (σ:State) (p:Place) (v:TVal):State:=
 match p.box with
 | true=>(σ.loosen true p.root).putBox p.root (some v)
 | false=>σ.put p.root (.val v)
def Z1r:List Mode->List Operand->State->Option (List TVal)
 | [],[],_=>some []
 | .borrow τ ag::ms,o::b,σ=>
  match σ.look o with
  | some v=>if decide (v.τ=τ)&&v.ag==ag&&Z06 τ==0 then (Z1r ms b σ).map λl=>v::l else none
  | none=>none
 | _,_,_=>none
def Z5S (f:Sig R) (τ:Ty) (ag:Bool) (ms:List Mode) (o:Operand) (i:List Operand) (σ:State) (k:TV->State->Option R):Option R:=
 match σ.peek o with
 | .ref p b=>
  match σ.content p,σ.getAt p,Z1r ms i σ with
  | some c,some u,some vs=>
   if decide (u.τ=τ)&&b==ag&&c.allO&&u.allO&&(p.box||(σ.slot p.root).isVal) then
    f.run ({ u with ag:=ag }::vs) [] λe d h=>
     match d with
     | [j]=>(match Z0J c.τ c.x c.tg p.path j with
      | some r=>let g:=(σ.hold p).kill.refill p ⟨c.τ,c.ag,r.1,r.2⟩
       (match e with
        | []=>k .dead g
        | [r]=>k (.val r) g
        | rs=>k (.tup (Z2q rs) (rs.map (·.ag))) g)
      | none=>none)
     | _=>none
   else none
  | _,_,_=>none
 | _=>none
def Z2L:List Step->Bool
 | []=>true
 | .idx _::p=>Z08 p
 | _::p=>Z2L p
def Z4g (p:Place):TV->Bool
 | .ref q _=> !Z08 p.path&&(q.box==p.box&&q.root==p.root&&Z08 q.path)
 | .eref q=> !Z08 p.path&&(q.box==p.box&&q.root==p.root&&Z2L q.path)
 | _=>false
def Z0W (p:Place):List TV->Nat->State->State
 | [],_,σ=>σ
 | t::l,i,σ=>Z0W p l (i+1) (match σ.slot i with | .dead=>if Z4g p t then σ.put i t else σ | _=>σ)
def Z5c (σ:State) (p:Place):Bool:=p.box||(σ.slot p.root).isVal
def Z9o (i j:Nat):Bool:=Nat.beq i j
def Z3y:List Step->List Step->Bool
 | [],[]=>true
 | .fst::p,.fst::q=>Z3y p q
 | .snd::p,.snd::q=>Z3y p q
 | .idx i::p,.idx j::q=>Z9o i j&&Z3y p q
 | _,_=>false
def Z7m:Op->Bool
 | .move _ | .nilCheck _ | .fieldAddr .. | .indexAddr .. => true
 | _=>false
def Z4X (i:Nat):Option Nat->Bool
 | some j=> !(j==i)
 | none=>true
def Z34 (d:Nat) (p:Place):List Oper->Bool
 | []=>false
 | [o]=>(match o.op with | .store _ _ (.tmp t)=>t==d | _=>false)&&o.guard.isNone&&o.dst.isNone
 | o::l=>Z7m o.op&&o.guard.isNone&&Z4X d o.dst&&(p.box||Z4X p.root o.dst)&&Z34 d p l
def Z6i (b:List (TypeId×Ty×List TypeId)) (f g:TypeId) (p:Place) (x:Operand) (σ:State) (k:State->Option R):Option R:=
 match Z0y b f,Z0y b g with
 | some (.slice e),some (.slice _)=>
  match σ.take x (.slice e) with
  | some (u,σ2)=>
   match Z2H (.slice e) u,u.tg,σ2.content p,σ2.getAt p with
   | some m,[t'],some c,some v=>
    match Z2H (.slice e) v with
    | some l=>if c.allO&&Z5c σ2 p&&(t'.isO||(Z06 e==0&& !t'.isN))&& !u.ag&& !agOf b f&& !agOf b g then
      bif lim (List.length (α:=El e) l+List.length (α:=El e) m) then
       (match Z0J c.τ c.x c.tg p.path ⟨.slice e,false,(l:List (El e))++m,[.O]⟩ with
        | some d=>k (Z0W p σ2.slots 0 ((σ2.hold p).kill.refill p ⟨c.τ,c.ag,d.1,d.2⟩))
        | none=>none)
      else none
     else none
    | none=>none
   | _,_,_,_=>none
  | none=>none
 | _,_=>none
def Z8a (g:Sig R) (τ:Ty) (ms:List Mode) (p:Place) (i:List Operand) (σ:State) (k:State->Option R):Option R:=
 Z0n ms i σ ⟨[],[],true⟩ λa b=>
  match b.content p,b.getAt p with
  | some c,some u=>
   if decide (u.τ=τ)&&c.allO&&u.allO&&Z5c b p&&Z4j a.lent&&a.vals.all TVal.noN then
    match (b.hold p).boxesAt a.lent with
    | some ext=>if ext.all TVal.noN then g.run ({ u with ag:=false }::a.vals) ext λf e d=>
      match f,e with
      | [v],[]=>if decide (v.τ=τ)&&v.ag==false&&v.allO then
        (match Z0J c.τ c.x c.tg p.path v with
         | some h=>k (Z0W p b.slots 0 (((b.hold p).renil.kill.putBoxes a.lent d).refill p ⟨c.τ,c.ag,h.1,h.2⟩))
         | none=>none)
       else none
      | _,_=>none
     else none
    | none=>none
   else none
  | _,_=>none
def Z5X (Γ:Env R) (σ:State) (o:Oper) (rest:List Oper):Option (Nat×Place):=
 match o.dst,o.guard,o.op with
 | some d,none,.call c=>
  match c.args.toList with
  | s::_=>
   match σ.peek s with
   | .ref p false=>
    if Z34 d p rest then
     match σ.content p with
     | some e=>if e.allO&&Z5c σ p&&Z2L p.path&&decide (d<σ.slots.length)&&Z8O Γ.np d&&(p.box|| !(d==p.root)) then
       (match c.callee with
        | .builtin .append=>if Z08 p.path then none else some (d,p)
        | .value f=>(match σ.peek f with
         | .clos g []=>(match Z0o Γ.fns g with
          | some b=>(match b.modes with
           | .eat (.slice _) false::_=>if Z08 p.path&& !p.box then none else some (d,p)
           | _=>none)
          | none=>none)
         | _=>none)
        | _=>none) else none
     | none=>none
    else none
   | _=>none
  | []=>none
 | _,_,_=>none
def Z0M (Γ:Env R) (d:Option Nat) (w:TypeId) (σ:State) (k:TV->State->Option R):Op->Option R
 | .assign x=>
  match σ.peek x with
  | .val v=>k (.val v) σ
  | .ref p ag=>(match σ.getAt p with
   | some u=>(match σ.take x u.τ with
    | some (v,σ')=>k (.val v) σ'
    | none=>none)
   | none=>none)
  | .nil=>(match Z0y Γ.tys w with
   | some (.slice e)=>k (.val ⟨.slice e,false,[],[.O]⟩) σ
   | _=>none)
  | .dead=>none
  | .un=>none
  | .tup .. => none
  | tv=>k tv σ
 | .alloc t=>
  match d,Z0y Γ.tys t with
  | some i,some τ=>if i<σ.slots.length then k (.ptr ⟨true,i,[]⟩) (((σ.loosen true i).unpoint i).putBox i (some ⟨τ,false,zero τ,List.replicate (Z06 τ) .O⟩)) else none
  | _,_=>none
 | .box t x=>
  match d,Z0y Γ.tys t with
  | some i,some τ=>match Z8v Γ.np σ x τ with
   | some r=>k (.sptr r τ []) σ
   | none=>match σ.take x τ with
    | some (v,σ')=>if i<σ'.slots.length then k (.ptr ⟨true,i,[]⟩) (((σ'.loosen true i).unpoint i).putBox i (some v)) else none
    | none=>none
  | _,_=>none
 | .build t j=>
  match Z0o Γ.tys t with
  | some (τ,l)=>if l.isEmpty|| !(j.toList.all λp=>decide (p.1<l.length)) then none else Z6X l.length j.toList ⟨τ,true,zero τ,List.replicate (Z06 τ) .O⟩ σ λv σ'=>k (.val v) σ'
  | none=>none
 | .buildSlice t n j=>
  match Z0y Γ.tys t with
  | some (.slice e)=>if j.size==n&& !agOf Γ.tys t&&decide (n * size e<=16777216) then Z7t e j.toList 0 [] .O σ λl tg σ'=>k (.val ⟨.slice e,false,l,[tg.over]⟩) σ' else none
  | _=>none
 | .store t a x=>
  match Z0y Γ.tys t,σ.peek a with
  | some τ,.ptr p=>match σ.take x τ with
   | some (v,σ')=>(match (σ'.loosen true p.root).setAt p v with
    | some q=>k .dead q
    | none=>none)
   | none=>none
  | some τ,.eref p=>match σ.take x τ with
   | some (v,σ')=>if v.allO&& !Z08 p.path&&(p.box||(σ'.slot p.root).isVal) then
     (match (σ'.content p) with
      | some r=>if r.allO then
        (match ((σ'.loosen p.box p.root).kill.setAt p v) with
        | some q=>k .dead (Z0W p σ'.slots 0 q)
        | none=>none) else none
      | none=>none) else none
   | none=>none
  | _,_=>none
 | .convert s t x=>
  if agOf Γ.tys s||agOf Γ.tys t then none else
  match Z0y Γ.tys s,Z0y Γ.tys t,σ.look x with
  | some .str,some (.slice (.int .u8)),some ⟨.str,false,b,_⟩=>bif lim (ByteArray.size b) then k (.val ⟨.slice (.int .u8),false,Z1n b,[.O]⟩) σ else none
  | _,_,_=>none
 | .makeSlice t n c=>
  if agOf Γ.tys t then none else
  match Z0y Γ.tys t,σ.look n,σ.look c with
  | some (.slice e),some ⟨.int .i64,false,m,_⟩,some ⟨.int .i64,false,z,_⟩=>
   bif decide ((0:Int)<=m/\(m:Int)<=z/\(z:Int)<=(LIM:Int)) then k (.val ⟨.slice e,false,List.replicate (Int.toNat m) (zero e),[.O]⟩) σ else none
  | _,_,_=>none
 | .call c=>
  match c.callee with
  | .builtin .append=>
   (match c.args.toList,c.argTypes.toList with
    | [s,x],[A,B]=>Z7Y Γ.tys A B s x σ k
    | _,_=>none)
  | .value f=>
   (match σ.peek f with
    | .clos g j=>(match Z0o Γ.fns g with
     | some h=>if h.modes.all Mode.isLook&& !h.modes.isEmpty then
       (match σ.placesVal j with
       | some vs=>Z6W h c.args.toList vs σ k
       | none=>none)
      else (match h.modes,c.args.toList,j with
      | .inout τ ag::ms,o::y,[]=>Z5S h τ ag ms o y σ k
      | _,y,j=>Z89 h y j σ k)
     | none=>none)
    | .sclos g C v=>(match Z0o Γ.fns g,Z4n C v.τ v.x with
     | some h,some vs=>if h.modes.all Mode.isLook&& !h.modes.isEmpty then Z6W h c.args.toList vs σ k else none
     | _,_=>none)
    | _=>none)
  | _=>none
 | _=>none
def opC (Γ:Env R) (d:Option Nat) (b:TypeId) (σ:State) (k:TV->State->Option R) (e:Op):Option R:=
 match Z0l Γ.tys σ e with
 | some (g,tv)=>bif g then k tv σ else none
 | none=>Z0M Γ d b σ k e
def Z4F (Γ:Env R) (o:Oper) (σ:State) (k:State->Option R):Option R:=
 match o.op with
 | .pick c a b=>
  match σ.look c with
  | some ⟨.bool,false,t,_⟩=>
   bif t then (match Z0l Γ.tys σ (.move a) with | some (_,tv)=>k (σ.puto o.dst tv) | none=>none)
   else (match Z0l Γ.tys σ (.move b) with | some (_,tv)=>k (σ.puto o.dst tv) | none=>none)
  | _=>none
 | d=>opC Γ o.dst o.type σ (λtv σ'=>k (σ'.puto o.dst tv)) d
def State.know (σ:State) (g:Nat) (b:Bool):State:={ σ with slots:=Z0H σ.slots g (.val (Z0z .bool b)) }
def Z4E (np:Nat) (d:Option Nat):Bool:=match d with | some i=>decide (np<=i) | none=>true
def Z1w (Γ:Env R) (e:List Oper) (o:Oper) (σ:State) (k:State->Option R):Option R:=
 if Z4E Γ.np o.dst then
  match o.guard with
  | none=>Z4F Γ o σ k
  | some (j,d)=>
   match (e[j]?).bind (·.dst) with
   | some g=>
    match σ.slot g with
    | .val ⟨.bool,false,b,_⟩=>
     bif b then (if d then Z4F Γ o (σ.know g true) k else k ((σ.know g true).puto o.dst .un))
     else (if d then k ((σ.know g false).puto o.dst .un) else Z4F Γ o (σ.know g false) k)
    | .un=>k (σ.puto o.dst .un)
    | _=>none
   | none=>none
 else none
def Z4J (Γ:Env R) (p:Place):List Oper->State->(State->Option R)->Option R
 | [],_,_=>none
 | [o],σ,k=>
  match o.op with
  | .store t y _=>(match Z0y Γ.tys t,σ.peek y with
   | some (.slice _),.eref q=>if q.box==p.box&&q.root==p.root&& !agOf Γ.tys t then bif Z3y q.path p.path then k σ else none else none
   | some (.slice _),.ptr q=>if q.box==p.box&&q.root==p.root&& !agOf Γ.tys t then bif Z3y q.path p.path then k σ else none else none
   | _,_=>none)
  | _=>none
 | o::l,σ,k=>
  if Z4E Γ.np o.dst then
   (match Z0l Γ.tys σ o.op with
    | some (g,tv)=>bif g then Z4J Γ p l (σ.puto o.dst tv) k else none
    | none=>none)
  else none
def Z8p (Γ:Env R) (d:Nat) (p:Place) (o:Oper) (σ:State) (k:State->Option R):Option R:=
 match o.op with
 | .call c=>
  match c.callee with
  | .builtin .append=>
   (match c.args.toList,c.argTypes.toList with
    | [_,x],[i,j]=>Z6i Γ.tys i j p x σ λσ'=>k (σ'.puto (some d) .dead)
    | _,_=>none)
  | .value f=>
   (match σ.peek f with
    | .clos g []=>(match Z0o Γ.fns g with
     | some b=>(match b.modes,c.args.toList with
      | .eat (.slice e) false::ms,_::h=>Z8a b (.slice e) ms p h σ λσ'=>k (σ'.puto (some d) .dead)
      | _,_=>none)
     | none=>none)
    | _=>none)
  | _=>none
 | _=>none
def Z4m (Γ:Env R) (d:Nat) (p:Place) (o:Oper) (rest:List Oper) (σ:State) (k:State->Option R):Option R:=
 Z8p Γ d p o σ λσ'=>Z4J Γ p rest σ' k
def Z5p:Op->Bool
 | .call c=>(match c.callee with | .builtin .append=>true | .value _=>true | _=>false)
 | _=>false
def Z1m (b:List Oper):List Nat->Option (List Oper)
 | []=>some []
 | i::l=>match b[i]?,Z1m b l with | some o,some r=>some (o::r) | _,_=>none
def Z5J (Γ:Env R) (b:List Oper):List Nat->State->(State->Option R)->Option R
 | [],σ,k=>k σ
 | i::rest,σ,k=>
  match b[i]? with
  | some o=>
   if Z5p o.op then
    (match (Z1m b rest).bind (Z5X Γ σ o) with
     | some (d,p)=>(match Z1m b rest with | some l=>Z4m Γ d p o l σ k | none=>none)
     | none=>Z1w Γ b o σ λσ'=>Z5J Γ b rest σ' k)
   else Z1w Γ b o σ λσ'=>Z5J Γ b rest σ' k
  | none=>none
def Z1A (Γ:Env R) (d:Op):Bool:=
 match d with
 | .store .. => false
 | .call c=>match c.callee with
  | .value (.func f)=>match Z0o Γ.fns f with
   | some b=>b.modes.all Mode.isBorrow||(b.modes.all Mode.isSee&& !b.modes.isEmpty)
   | none=>false
  | .value _=>false
  | _=>true
 | _=>true
def Z1N (Γ:Env R) (d:Op):Bool:=
 match d with
 | .store .. => false
 | .call c=>match c.callee with
  | .value (.func f)=>match Z0o Γ.fns f with
   | some b=>b.modes.all Mode.noLend||(b.modes.all Mode.isSee&& !b.modes.isEmpty)
   | none=>false
  | .value _=>false
  | _=>true
 | _=>true
def Z2e (σ:State):Op->Bool
 | .load _ x=>match σ.peek x with | .ptr _=>true | _=>false
 | .convert _ _ x=>match σ.peek x with | .val ⟨.int _,_,_,_⟩=>true | _=>false
 | _=>true
def Z1z (d:List (TypeId×Ty×List TypeId)) (b:Op):Bool:=match b with | .pick .. => true | b=>Z5r d b
inductive Plan where
 | done
 | go (i:Nat) (p:Plan)
 | gob (i:Nat) (p:Plan)
 | alt (i:Nat) (p q:Plan)
def Z87 (x y:Option R):Option R:=match x with | some _=>y | none=>none
def Z4R (f:Nat->Option Plan):List Nat->Option Plan
 | []=>some .done
 | [i]=>(f i).map (.go i)
 | i::l=>match f i,Z4R f l with | some p,some q=>some (.alt i p q) | _,_=>none
def Z1a (Γ:Env R) (d:Array Oper):Nat->Array Bool->Option Plan
 | 0,b=>if (Region.ready .any d b).isEmpty then some .done else none
 | n+1,b=>
  let rs:=Region.ready .any d b
  match rs.find? (λi=>match d[i]? with
    | some o=>Z1z Γ.tys o.op&&Region.free .any d b i&&(List.range d.size).all λj=>j==i||b.getD j true ||
      (match d[j]? with | some f=>f.after.any (λe=>Region.binds .any e&&e.on==i)||Z1A Γ f.op | none=>true)
    | none=>false) with
  | some i=>(Z1a Γ d n (b.setIfInBounds i true)).map (.go i)
  | none=>
   match rs.find? (λi=>match d[i]? with
     | some o=>Z1z Γ.tys o.op&&Region.free .any d b i&&(List.range d.size).all λj=>j==i||b.getD j true ||
       (match d[j]? with | some f=>f.after.any (λe=>Region.binds .any e&&e.on==i)||Z1N Γ f.op | none=>true)
     | none=>false) with
   | some i=>(Z1a Γ d n (b.setIfInBounds i true)).map (.gob i)
   | none=>Z4R (λi=>Z1a Γ d n (b.setIfInBounds i true)) rs
def Z12 (b:List Oper):Nat->Plan->Option (List Nat)
 | _,.done=>some []
 | i,.go j p=>match b[j]? with
  | some o=>if o.after.any (λe=>Region.binds .any e&&e.on==i) then (Z12 b j p).map (j:: ·) else none
  | none=>none
 | _,_=>none
def Z28 (Γ:Env R) (b:List Oper):Plan->State->(State->Option R)->Option R
 | .done,σ,k=>k σ
 | .go i p,σ,k=>
  match b[i]? with
  | some o=>
   if Z5p o.op then
    (match ((Z12 b i p).bind (Z1m b)).bind (Z5X Γ σ o) with
     | some (d,q)=>(match (Z12 b i p).bind (Z1m b) with | some l=>Z4m Γ d q o l σ k | none=>none)
     | none=>Z1w Γ b o σ λσ'=>Z28 Γ b p σ' k)
   else Z1w Γ b o σ λσ'=>Z28 Γ b p σ' k
  | none=>none
 | .gob i p,σ,k=>
  match b[i]? with
  | some o=>bif Z2e σ o.op then Z1w Γ b o σ λσ'=>Z28 Γ b p σ' k else none
  | none=>none
 | .alt i p q,σ,k=>
  match b[i]? with
  | some o=>Z87 (Z1w Γ b o σ λσ'=>Z28 Γ b p σ' k) (Z28 Γ b q σ k)
  | none=>none
inductive Ex where
 | normal | exit (id:Nat) | ret
abbrev Z83 (R:Type):=Ex->State->Option R
abbrev Z1d (R:Type):=State->Z83 R->Option R
inductive HT where
 | o | x (i:Nat) | t (a b:HT)
def HT.l:HT->HT
 | .t a _=>a
 | _=> .o
def HT.r:HT->HT
 | .t _ b=>b
 | _=> .o
def Z24:List Nat->Nat->List TV->List TV
 | _,_,[]=>[]
 | ks,i,tv::l=>(if ks.contains i then tv else .dead)::Z24 ks (i+1) l
def Z3d:List Nat->Nat->List (Option TVal)->List (Option TVal)
 | _,_,[]=>[]
 | ks,i,b::l=>(if ks.contains i then b else none)::Z3d ks (i+1) l
def State.forget (σ:State) (ks b:List Nat):State:=⟨Z24 ks 0 σ.slots,Z3d b 0 σ.boxes⟩
def Z3w (b:Z1d R) (d:State->State) (f:Ex->State->State):Nat->Z1d R
 | 0,_,_=>none
 | n+1,σ,k=>b σ λe σ'=>match e with
  | .normal=>Z3w b d f n (d σ') k
  | e=>k e (f e σ')
def Z0S (Γ:Env R) (X:List (Z1d R)):HT->Code->Z1d R
 | .x i,_=>λσ k=>Z0u (λ_ _=>none) X i σ k
 | _,.skip=>λσ k=>k .normal σ
 | _,.region _ d f=>λσ k=>
  if f then
   (match (if Region.noSelect d then Z1a Γ d d.size (Array.replicate d.size false) else none) with
    | some l=>Z28 Γ d.toList l σ λσ'=>k .normal σ'
    | none=>none)
  else Z5J Γ d.toList (List.range d.size) σ λσ'=>k .normal σ'
 | h,.seq a b=>λσ k=>Z0S Γ X h.l a σ λe σ'=>match e with
  | .normal=>Z0S Γ X h.r b σ' k
  | e=>k e σ'
 | h,.cond (.tmp t) a b=>λσ k=>
  match σ.slot t with
  | .val ⟨.bool,false,x,_⟩=>bif x then Z0S Γ X h.l a (σ.know t true) k else Z0S Γ X h.r b (σ.know t false) k
  | _=>none
 | h,.cond (.const (.bool x)) a b=>λσ k=>bif x then Z0S Γ X h.l a σ k else Z0S Γ X h.r b σ k
 | h,.block g c=>λσ k=>Z0S Γ X h.l c σ λe σ'=>match e with
  | .exit j=>if j==g then k .normal σ' else k (.exit j) σ'
  | e=>k e σ'
 | _,.exit g=>λσ k=>k (.exit g) σ
 | h,.scope c=>λσ k=>Z0S Γ X h.l c σ k
 | _,.ret=>λσ k=>k .ret σ
 | _,_=>λ_ _=>none
def Z0h (n:Nat):List Mode->List TVal->Nat->List TV
 | .borrow _ ag::ms,v::vs,j=> .val { v with ag:=ag,tg:=List.replicate (Z06 v.τ) .S }::Z0h n ms vs j
 | .consume _ ag::ms,v::vs,j=> .val { v with ag:=ag }::Z0h n ms vs j
 | .eat _ ag::ms,v::vs,j=> .val { v with ag:=ag }::Z0h n ms vs j
 | .inout _ ag::ms,v::vs,j=> .val { v with ag:=ag }::Z0h n ms vs j
 | .ptr _::ms,vs,j=> .ptr ⟨true,n+j,[]⟩::Z0h n ms vs (j+1)
 | .look _ ag::ms,v::vs,j=> .val { v with ag:=ag,tg:=List.replicate (Z06 v.τ) .S }::Z0h n ms vs j
 | .rptr _::ms,v::vs,j=> .eptr (Z5s v.τ v.x) .S::Z0h n ms vs j
 | .rclos f b::ms,v::vs,j=> .sclos f b (Z5s v.τ v.x)::Z0h n ms vs j
 | .clos f b::ms,vs,j=> .clos f ((List.range b.length).map λi=>⟨true,n+j+i,[]⟩)::Z0h n ms vs (j+b.length)
 | _,_,_=>[]
def Z1R {α:Type} (d:α):Nat->List α->List α
 | 0,_=>[]
 | n+1,[]=>d::Z1R d n []
 | n+1,a::l=>a::Z1R d n l
def Z3Y (b:Nat) (modes:List Mode) (vals ext:List TVal):State:=
 { slots:=Z1R .dead b (Z0h b modes vals 0),boxes:=Z1R none b []++ext.map some }
def Z1X (d:List (TypeId×Ty×List TypeId)):List ResultVar->List Bool->State->List TVal->Option (List TVal×State)
 | [],_,σ,b=>some (b.reverse,σ)
 | .tmp t::rs,ag::ags,σ,b=>
  (match σ.look (.tmp t) with
   | some v=>if v.ag==ag then (match σ.take (.tmp t) v.τ with
    | some (u,σ')=>Z1X d rs ags σ' (u::b)
    | none=>none) else none
   | none=>none)
 | .cell a ty::rs,ag::ags,σ,b=>
  (match Z0y d ty,σ.slot a with
   | some τ,.ptr p=>(match σ.getAt p with
    | some v=>if v.τ=τ/\agOf d ty=ag/\Z08 p.path then (match σ.setAt p v.alias with
      | some σ'=>Z1X d rs ags σ' ({ v with ag:=ag }::b)
      | none=>none) else none
    | none=>none)
   | _,_=>none)
 | _,_,_,_=>none
def ioC (np:Nat):List Mode->Nat->State->Option (List TVal×State)
 | [],_,σ=>some ([],σ)
 | .inout τ ag::ms,i,σ=>
  match σ.take (.tmp i) τ with
  | some (u,σ')=>if decide (i<np)&&u.allO&&u.ag==ag then (ioC np ms (i+1) σ').map λr=>(u::r.1,r.2) else none
  | none=>none
 | _::ms,i,σ=>ioC np ms (i+1) σ
def Z2K:List Mode->List Ty
 | .inout τ _::ms=>τ::Z2K ms
 | _::ms=>Z2K ms
 | []=>[]
def Z2V:List TVal->List TVal->Bool
 | [],[]=>true
 | u::us,v::vs=>decide (u.τ=v.τ)&&Z2V us vs
 | _,_=>false
def Z8k (Γ:Env R) (X:List (Z1d R)) (ht:HT) (fz:Bool) (fn:Func) (modes:List Mode) (ags:List Bool) (vals ext:List TVal)
  (k:List TVal->List TVal->List TVal->Option R):Option R:=
 match fn.body with
 | none=>none
 | some c=>Z0S Γ X ht c (Z3Y fn.ntmps modes vals ext) λe σ=>
  match e with
  | .exit _=>none
  | _=>match Z1X Γ.tys fn.results.toList ags σ [] with
   | some (f,g)=>(match ioC Γ.np modes 0 g with
    | some (d,σ')=>(match σ'.boxesAt ((List.range ext.length).map (fn.ntmps+ ·)) with
     | some b=>if decide (σ'.slots.length=fn.ntmps)&&Z2V ext b&&b.all TVal.noN&&((!fz&&f.all TVal.noN)||(d.isEmpty&&b.all λv=>v.tg.all λt=> !t.own)) then k (Z23 fz f) d b else none
     | none=>none)
    | none=>none)
   | none=>none
end
end
end Go.PI
namespace Go.PI
def Z05 (w:World) (b o n:Nat):Option (List Value):=
 match w.heap[b]? with
 | some (.cells c _ _)=>if o+n<=c.size then some ((c.toList.drop o).take n) else none
 | _=>none
def Z40 (c:Array Value) (fr:Nat×Nat):Prop:=∀ j,j<c.size->¬ (fr.1<=j/\j<fr.2)
def Row (w:World) (b n:Nat):Prop:=∃ c T fr,w.heap[b]? = some (.cells c T fr)/\n<=c.size/\Z40 c fr
def Z2C (w:World) (b:Nat):Prop:=∃ c T fr,w.heap[b]? = some (.cells c T fr)/\¬ (fr.1<=c.size/\c.size<fr.2)
def Z3i (e:Ty) (w:World) (b n:Nat):Prop:=Row w b n/\(e= .int .u8\/Z2C w b)
def Z5g (St Al:Nat->Prop):Tag->Nat->Prop
 | .S,b=>St b
 | .PS,b=>St b
 | _,b=>Al b
def Rp (w:World) (F:Nat->Nat) (St Al:Nat->Prop):(τ:Ty)->List Tag->List Value->El τ->List Nat->Prop
 | .int k,tg,cs,x,fp=>cs=[.int k x]/\tg=[]/\fp=[]
 | .bool,tg,cs,x,fp=>cs=[.bool x]/\tg=[]/\fp=[]
 | .str,tg,cs,x,fp=>cs=[.string x]/\tg=[]/\fp=[]
 | .unit,tg,cs,_,fp=>cs=[]/\tg=[]/\fp=[]
 | .pair a b,tg,cs,x,fp=>∃ l m f g i j,tg=l++m/\cs=f++g/\fp=i++j/\Rp w F St Al a l f x.1 i/\Rp w F St Al b m g x.2 j
 | .slice e,tg,cs,x,fp=>∃ t a cap,tg=[t]/\cs=[.slice a (List.length (α:=El e) x) cap]/\List.length (α:=El e) x<=cap /\
   ((t.own=true/\a=none/\x=[]/\cap=0/\fp=[]) \/
    (t.own=true/\∃ b o fps,a=some ⟨b,o,none⟩/\Al b/\fp=b::List.flatten fps/\fps.length=List.length (α:=El e) x/\Z3i e w b (o+cap * size e) /\
     F b=o+List.length (α:=El e) x * size e /\
     ∀ k (h:k<List.length (α:=El e) x),∃ d,Z05 w b (o+k * size e) (size e)=some d/\Rp w F St Al e (List.replicate (Z06 e) t.inner) d (List.get (α:=El e) x ⟨k,h⟩) (fps.getD k [])) \/
    (t.own=false/\fp=[]/\(x=[]\/∃ b o,a=some ⟨b,o,none⟩/\Z5g St Al t b/\o+List.length (α:=El e) x * size e<=F b /\
     ∀ k (h:k<List.length (α:=El e) x),∃ d,Z05 w b (o+k * size e) (size e)=some d/\Rp w F St Al e (List.replicate (Z06 e) t.inner) d (List.get (α:=El e) x ⟨k,h⟩) [])))
theorem Z0X {w:World} {b o n:Nat} {cs:List Value} (h:Z05 w b o n=some cs):b<w.heap.size:=by
 unfold Z05 at h
 split at h
 ·rename_i d;exact (Array.getElem?_eq_some_iff.1 d).1
 ·cases h
theorem Z1D {w:World} {b o n:Nat} {cs:List Value} (h:Z05 w b o n=some cs):cs.length=n:=by
 unfold Z05 at h
 split at h
 ·split at h
  ·cases h;simp;omega
  ·cases h
 ·cases h
theorem Row.lt {w:World} {b n:Nat} (h:Row w b n):b<w.heap.size:=by
 obtain ⟨c,T,fr,d,_⟩:=h;exact (Array.getElem?_eq_some_iff.1 d).1
theorem Row.cells {w:World} {b n o m:Nat} (h:Row w b n) (e:o+m<=n):∃ cs,Z05 w b o m=some cs:=by
 obtain ⟨c,T,fr,d,f,_⟩:=h
 exact ⟨_,by unfold Z05;rw [d];simp only [];rw [if_pos (by omega)]⟩
theorem Row.mono {w:World} {b n m:Nat} (h:Row w b n) (e:m<=n):Row w b m:=by
 obtain ⟨c,T,fr,d,f,ht⟩:=h;exact ⟨c,T,fr,d,by omega,ht⟩
theorem Z3i.lt {e:Ty} {w:World} {b n:Nat} (h:Z3i e w b n):b<w.heap.size:=h.1.lt
theorem Z3i.cells {e:Ty} {w:World} {b n o m:Nat} (h:Z3i e w b n) (d:o+m<=n):∃ cs,Z05 w b o m=some cs:=h.1.cells d
theorem Z3i.mono {e:Ty} {w:World} {b n m:Nat} (h:Z3i e w b n) (d:m<=n):Z3i e w b m:=⟨h.1.mono d,h.2⟩
section
variable {w:World} {F:Nat->Nat} {St Al:Nat->Prop}
theorem Rp.len:{τ:Ty}->{tg:List Tag}->{cs:List Value}->{x:El τ}->{fp:List Nat}->Rp w F St Al τ tg cs x fp->cs.length=size τ/\tg.length=Z06 τ
 | .int _,_,_,_,_,h=>by obtain ⟨rfl,rfl,rfl⟩:=h;exact ⟨rfl,rfl⟩
 | .bool,_,_,_,_,h=>by obtain ⟨rfl,rfl,rfl⟩:=h;exact ⟨rfl,rfl⟩
 | .str,_,_,_,_,h=>by obtain ⟨rfl,rfl,rfl⟩:=h;exact ⟨rfl,rfl⟩
 | .unit,_,_,_,_,h=>by obtain ⟨rfl,rfl,rfl⟩:=h;exact ⟨rfl,rfl⟩
 | .slice _,_,_,_,_,h=>by obtain ⟨t,a,cap,rfl,rfl,_⟩:=h;exact ⟨rfl,rfl⟩
 | .pair a b,_,_,_,_,h=>by
  obtain ⟨m,n,i,j,k,l,rfl,rfl,rfl,d,e⟩:=h
  have f:=Rp.len d
  have g:=Rp.len e
  simp [size,Z06,f,g]
theorem Rp.lt:{τ:Ty}->{tg:List Tag}->{cs:List Value}->{x:El τ}->{fp:List Nat}->Rp w F St Al τ tg cs x fp->∀ b∈fp,b<w.heap.size
 | .int _,_,_,_,_,h=>by obtain ⟨rfl,rfl,rfl⟩:=h;simp
 | .bool,_,_,_,_,h=>by obtain ⟨rfl,rfl,rfl⟩:=h;simp
 | .str,_,_,_,_,h=>by obtain ⟨rfl,rfl,rfl⟩:=h;simp
 | .unit,_,_,_,_,h=>by obtain ⟨rfl,rfl,rfl⟩:=h;simp
 | .slice e,_,_,_,_,h=>by
  obtain ⟨t,a,cap,rfl,rfl,_,h⟩:=h
  rcases h with ⟨_,_,_,_,rfl⟩ | ⟨_,b,o,fps,_,_,rfl,A,r,_,n⟩ | ⟨_,rfl,_⟩
  ·simp
  ·intro c d
   rcases List.mem_cons.1 d with rfl | d
   ·exact r.lt
   ·obtain ⟨f,p,g⟩:=List.mem_flatten.1 d
    obtain ⟨k,q,rfl⟩:=List.mem_iff_getElem.1 p
    obtain ⟨j,_,i⟩:=n k (by omega)
    refine Rp.lt i c ?_
    rw [List.getD_eq_getElem?_getD,List.getElem?_eq_getElem q];exact g
  ·simp
 | .pair a b,_,_,_,_,h=>by
  obtain ⟨B,C,u,v,y,z,rfl,rfl,rfl,l,m⟩:=h
  intro c d
  rcases List.mem_append.1 d with d | d
  ·exact Rp.lt l c d
  ·exact Rp.lt m c d
def Z07 (w:World) (F:Nat->Nat) (w':World) (F':Nat->Nat) (b:Nat):Prop:=
 F b<=F' b/\(∀ o n cs,o+n<=F b->Z05 w b o n=some cs->Z05 w' b o n=some cs)/\(∀ n,Row w b n->Row w' b n)/\(Z2C w b->Z2C w' b)
theorem Z07.rowE {w:World} {F:Nat->Nat} {w':World} {F':Nat->Nat} {b:Nat} (h:Z07 w F w' F' b) {e:Ty} {n:Nat} (d:Z3i e w b n):Z3i e w' b n:=⟨h.2.2.1 n d.1,d.2.imp id h.2.2.2⟩
theorem Z07.refl (w:World) (F:Nat->Nat) (b:Nat):Z07 w F w F b:=⟨Nat.le_refl _,λ_ _ _ _ h=>h,λ_ h=>h,λh=>h⟩
theorem Z07.trans {i w2 j:World} {d e f:Nat->Nat} {b:Nat} (h:Z07 i d w2 e b) (k:Z07 w2 e j f b):Z07 i d j f b:=
 ⟨Nat.le_trans h.1 k.1,λo n cs g l=>k.2.1 o n cs (Nat.le_trans g h.1) (h.2.1 o n cs g l),λn p=>k.2.2.1 n (h.2.2.1 n p),λm=>k.2.2.2 (h.2.2.2 m)⟩
theorem Z07.of_block {w w':World} {F F':Nat->Nat} {b:Nat} (h:w'.heap[b]? = w.heap[b]?) (e:F b<=F' b):Z07 w F w' F' b:=
 ⟨e,λo n cs _ f=>by unfold Z05 at *;rw [h];exact f,λn d=>by unfold Row at *;rw [h];exact d,λd=>by unfold Z2C at *;rw [h];exact d⟩
theorem Tag.inner_own_false {t:Tag} (h:t.own=false):t.inner.own=false:=by cases t<;>simp_all [Tag.own,Tag.inner]
theorem Rp.pres {w':World} {F':Nat->Nat} {St' Al':Nat->Prop} (i:∀ b,St b->St' b) (d:∀ b,b<w.heap.size->Al b->Al' b) (n:∀ b,St b->Z07 w F w' F' b) :
  {τ:Ty}->{tg:List Tag}->{cs:List Value}->{x:El τ}->{fp:List Nat}->Rp w F St Al τ tg cs x fp ->
  (∀ b∈fp,Z07 w F w' F' b/\F' b=F b)->((∀ t∈tg,t.isN=false)\/∀ b,b<w.heap.size->Al b->Z07 w F w' F' b)->Rp w' F' St' Al' τ tg cs x fp
 | .int _,_,_,_,_,h,_,_=>h
 | .bool,_,_,_,_,h,_,_=>h
 | .str,_,_,_,_,h,_,_=>h
 | .unit,_,_,_,_,h,_,_=>h
 | .pair a b,_,_,_,_,h,j,g=>by
  obtain ⟨U,V,J,K,L,M,rfl,rfl,rfl,P,Q⟩:=h
  refine ⟨U,V,J,K,L,M,rfl,rfl,rfl,Rp.pres i d n P (λb C=>j b (List.mem_append_left _ C)) ?_,Rp.pres i d n Q (λb C=>j b (List.mem_append_right _ C)) ?_⟩
  ·exact g.imp (λh t ht=>h t (List.mem_append_left _ ht)) id
  ·exact g.imp (λh t ht=>h t (List.mem_append_right _ ht)) id
 | .slice e,_,_,x,_,h,j,g=>by
  obtain ⟨t,a,cap,rfl,rfl,G,h⟩:=h
  have m:((∀ t'∈List.replicate (Z06 e) t.inner,t'.isN=false)\/∀ b,b<w.heap.size->Al b->Z07 w F w' F' b):=
   g.imp (λh t' H=>by
    obtain ⟨_,rfl⟩:=List.mem_replicate.1 H
    have:=h t (by simp)
    cases t<;>simp_all [Tag.isN,Tag.inner]) id
  refine ⟨t,a,cap,rfl,rfl,G,?_⟩
  rcases h with h | ⟨z,b,o,fps,A,B,rfl,R,I,v,y⟩ | ⟨z,rfl,h⟩
  ·exact .inl h
  ·refine .inr (.inl ⟨z,b,o,fps,A,d b I.lt B,rfl,R,?_,?_,λk q=> ?_⟩)
   ·exact ((j b (by simp)).1).rowE I
   ·rw [(j b (by simp)).2];exact v
   ·obtain ⟨f,p,l⟩:=y k q
    refine ⟨f,((j b (by simp)).1).2.1 _ _ _ ?_ p,Rp.pres i d n l (λc E=>j c ?_) m⟩
    ·rw [v]
     have:(k+1) * size e<=List.length (α:=El e) x * size e:=Nat.mul_le_mul_right _ q
     rw [Nat.add_mul,Nat.one_mul] at this
     omega
    ·refine List.mem_cons_of_mem _ (List.mem_flatten.2 ⟨_,?_,E⟩)
     rw [List.getD_eq_getElem?_getD,List.getElem?_eq_getElem (by omega)]
     exact List.getElem_mem _
  ·refine .inr (.inr ⟨z,rfl,?_⟩)
   rcases h with h | ⟨b,o,A,u,v,y⟩
   ·exact .inl h
   ·by_cases T:(List.length (α:=El e) x)=0
    ·exact .inl (List.length_eq_zero_iff.1 T)
    have D:b<w.heap.size:=by
     obtain ⟨f,p,_⟩:=y 0 (by omega)
     exact Z0X p
    have r:Z07 w F w' F' b:=by
     rcases g with g | g
     ·have:=g t (by simp)
      cases t<;>simp_all [Tag.isN,Tag.own,Z5g]
     ·cases t with
      | S=>exact n b u
      | N=>exact g b D u
      | _=>cases z
    refine .inr ⟨b,o,A,?_,Nat.le_trans v r.1,λk q=> ?_⟩
    ·cases t<;>simp_all [Z5g]
    ·obtain ⟨f,p,l⟩:=y k q
     refine ⟨f,r.2.1 _ _ _ ?_ p,Rp.pres i d n l (by simp) m⟩
     have:(k+1) * size e<=List.length (α:=El e) x * size e:=Nat.mul_le_mul_right _ q
     rw [Nat.add_mul,Nat.one_mul] at this
     omega
def Tag.weak (St':Nat->Prop) (fp:List Nat) (t t':Tag):Prop:=t'= .N\/(t'= .S/\(t= .S\/((t= .O\/t= .PS)/\∀ b∈fp,St' b)))
theorem Rp.weaken {St':Nat->Prop} (j:∀ b,St b->St' b) (n:∀ b,St b->Al b) :
  {τ:Ty}->{tg d:List Tag}->{cs:List Value}->{x:El τ}->{fp:List Nat}->Rp w F St Al τ tg cs x fp ->
  d.length=tg.length->(∀ i (h:i<tg.length) (r:i<d.length),Tag.weak St' fp tg[i] d[i])->Rp w F St' Al τ d cs x []
 | .int _,_,_,_,_,_,h,l,_=>by obtain ⟨rfl,rfl,rfl⟩:=h;exact ⟨rfl,by simpa using l,rfl⟩
 | .bool,_,_,_,_,_,h,l,_=>by obtain ⟨rfl,rfl,rfl⟩:=h;exact ⟨rfl,by simpa using l,rfl⟩
 | .str,_,_,_,_,_,h,l,_=>by obtain ⟨rfl,rfl,rfl⟩:=h;exact ⟨rfl,by simpa using l,rfl⟩
 | .unit,_,_,_,_,_,h,l,_=>by obtain ⟨rfl,rfl,rfl⟩:=h;exact ⟨rfl,by simpa using l,rfl⟩
 | .pair a b,_,d,_,_,_,h,l,A=>by
  obtain ⟨B,Y,Q,R,Z,f2,rfl,rfl,rfl,u,v⟩:=h
  have V:d.length=B.length+Y.length:=by simpa using l
  refine ⟨d.take B.length,d.drop B.length,Q,R,[],[],(List.take_append_drop _ _).symm,rfl,rfl,Rp.weaken j n u (by simp;omega) ?_,Rp.weaken j n v (by simp;omega) ?_⟩
  ·intro i h r
   have:=A i (by simp;omega) (by simp at r;omega)
   rw [List.getElem_append_left h] at this
   simp only [List.getElem_take]
   exact this.imp id (λ⟨u,v⟩=>⟨u,v.imp id (λ⟨C,D⟩=>⟨C,λb y=>D b (List.mem_append_left _ y)⟩)⟩)
  ·intro i h r
   have:=A (B.length+i) (by simp;omega) (by simp at r;omega)
   rw [List.getElem_append_right (by omega)] at this
   simp only [Nat.add_sub_cancel_left] at this
   simp only [List.getElem_drop]
   exact this.imp id (λ⟨u,v⟩=>⟨u,v.imp id (λ⟨C,D⟩=>⟨C,λb y=>D b (List.mem_append_right _ y)⟩)⟩)
 | .slice e,_,d,_,_,_,h,l,A=>by
  obtain ⟨t,a,cap,rfl,rfl,K,h⟩:=h
  obtain ⟨t',rfl⟩:∃ t',d=[t']:=by
   match d,l with
   | [t'],_=>exact ⟨t',rfl⟩
  have g:=A 0 (by simp) (by simp)
  simp only [List.getElem_cons_zero] at g
  have L:t'.own=false:=by rcases g with rfl | ⟨rfl,_⟩<;>rfl
  refine ⟨t',a,cap,rfl,rfl,K,.inr (.inr ⟨L,rfl,?_⟩)⟩
  have m:∀ (f:List Nat),(∀ b∈f,∀ _:t'= .S,t.inner.own=true->St' b)->∀ i (h:i<(List.replicate (Z06 e) t.inner).length) (r:i<(List.replicate (Z06 e) t'.inner).length),
    Tag.weak St' f (List.replicate (Z06 e) t.inner)[i] (List.replicate (Z06 e) t'.inner)[i]:=by
   intro f U i h r
   simp only [List.getElem_replicate]
   rcases g with rfl | ⟨rfl,h⟩
   ·exact .inl rfl
   ·refine .inr ⟨rfl,?_⟩
    rcases h with rfl | ⟨rfl | rfl,h⟩
    ·exact .inl rfl
    ·exact .inr ⟨.inl rfl,λb y=>U b y rfl rfl⟩
    ·exact .inl rfl
  rcases h with ⟨_,rfl,rfl,rfl,rfl⟩ | ⟨z,b,o,fps,rfl,E,rfl,W,hr,P,I⟩ | ⟨z,rfl,h⟩
  ·exact .inl rfl
  ·refine .inr ⟨b,o,rfl,?_,by omega,λk J=> ?_⟩
   ·rcases g with rfl | ⟨rfl,h⟩
    ·exact E
    ·rcases h with rfl | ⟨_,h⟩
     ·cases z
     ·exact h b (by simp)
   ·obtain ⟨p,G,q⟩:=I k J
    refine ⟨p,G,Rp.weaken j n q (by simp) (m _ λc H X _=> ?_)⟩
    rcases g with rfl | ⟨rfl,h⟩
    ·cases X
    ·rcases h with rfl | ⟨_,h⟩
     ·cases z
     ·refine h c (List.mem_cons_of_mem _ (List.mem_flatten.2 ⟨_,?_,H⟩))
      rw [List.getD_eq_getElem?_getD,List.getElem?_eq_getElem (by omega)]
      exact List.getElem_mem _
  ·rcases h with h | ⟨b,o,T,M,P,I⟩
   ·exact .inl h
   ·refine .inr ⟨b,o,T,?_,P,λk J=> ?_⟩
    ·rcases g with rfl | ⟨rfl,h⟩
     ·cases t<;>simp_all [Z5g,Tag.own]
     ·rcases h with rfl | ⟨rfl | rfl,h⟩
      ·exact j b M
      ·cases z
      ·cases z
    ·obtain ⟨p,G,q⟩:=I k J
     exact ⟨p,G,Rp.weaken j n q (by simp) (m _ (by simp))⟩
theorem Rp.alias (d:∀ b,St b->Al b) {τ:Ty} {tg:List Tag} {cs:List Value} {x:El τ} {fp:List Nat} (h:Rp w F St Al τ tg cs x fp):Rp w F St Al τ (tg.map Tag.alias) cs x []:=
 h.weaken (λ_ h=>h) d (by simp) λi h e=>by
  simp only [List.getElem_map]
  cases tg[i]<;>simp [Tag.weak,Tag.alias]
theorem Rp.freeze {St':Nat->Prop} (f:∀ b,St b->St' b) (e:∀ b,St b->Al b) {τ:Ty} {tg:List Tag} {cs:List Value} {x:El τ} {fp:List Nat} (h:Rp w F St Al τ tg cs x fp) (d:∀ b∈fp,St' b) :
  Rp w F St' Al τ (tg.map Tag.freeze) cs x []:=
 h.weaken f e (by simp) λi h g=>by
  simp only [List.getElem_map]
  generalize tg[i]=t
  cases t<;>simp [Tag.weak,Tag.freeze]
  ·exact d
  ·exact d
theorem Rp.fp_nil:{τ:Ty}->{tg:List Tag}->{cs:List Value}->{x:El τ}->{fp:List Nat}->Rp w F St Al τ tg cs x fp->(∀ t∈tg,t.own=false)->fp=[]
 | .int _,_,_,_,_,h,_=>by obtain ⟨rfl,rfl,rfl⟩:=h;rfl
 | .bool,_,_,_,_,h,_=>by obtain ⟨rfl,rfl,rfl⟩:=h;rfl
 | .str,_,_,_,_,h,_=>by obtain ⟨rfl,rfl,rfl⟩:=h;rfl
 | .unit,_,_,_,_,h,_=>by obtain ⟨rfl,rfl,rfl⟩:=h;rfl
 | .slice e,_,_,_,_,h,d=>by
  obtain ⟨t,a,cap,rfl,rfl,_,h⟩:=h
  have:=d t (by simp)
  rcases h with ⟨f,_⟩ | ⟨f,_⟩ | ⟨_,rfl,_⟩
  ·simp_all
  ·simp_all
  ·rfl
 | .pair a b,_,_,_,_,h,d=>by
  obtain ⟨m,n,i,j,k,l,rfl,rfl,rfl,f,g⟩:=h
  rw [Rp.fp_nil f λt ht=>d t (List.mem_append_left _ ht),Rp.fp_nil g λt ht=>d t (List.mem_append_right _ ht)];rfl
end
end Go.PI
namespace Go.PI
def Z00 (w:World):(τ:Ty)->List Value->Option (Nat×Nat)->List Step->Option (List Value×Option (Nat×Nat))
 | _,cs,base,[]=>some (cs,base)
 | .pair a b,cs,base,.fst::p=>Z00 w a (cs.take (size a)) base p
 | .pair a b,cs,base,.snd::p=>Z00 w b (cs.drop (size a)) (base.map λx=>(x.1,x.2+size a)) p
 | .slice e,cs,_,.idx i::p=>
  match cs with
  | [.slice (some ⟨b,o,none⟩) len _]=>
   if i<len then
    match Z05 w b (o+i * size e) (size e) with
    | some d=>Z00 w e d (some (b,o+i * size e)) p
    | none=>none
   else none
  | _=>none
 | _,_,_,_=>none
section
variable {w:World} {F:Nat->Nat} {St Al:Nat->Prop}
theorem Z4f {α:Type} (l:List α) (i:Nat) (d:α) (h:i<l.length):l.getD i d=l.get ⟨i,h⟩:=by
 rw [List.getD_eq_getElem?_getD,List.getElem?_eq_getElem h];rfl
theorem Rp.pair_parts {a b:Ty} {tg:List Tag} {cs:List Value} {x:El (.pair a b)} {fp:List Nat} (h:Rp w F St Al (.pair a b) tg cs x fp) :
  ∃ d e,fp=d++e/\Rp w F St Al a (tg.take (Z06 a)) (cs.take (size a)) x.1 d/\Rp w F St Al b (tg.drop (Z06 a)) (cs.drop (size a)) x.2 e:=by
 obtain ⟨l,m,j,k,d,e,rfl,rfl,rfl,g,i⟩:=h
 have f:=g.len
 refine ⟨d,e,rfl,?_,?_⟩
 ·rw [<-f.1,<-f.2];simpa using g
 ·rw [<-f.1,<-f.2];simpa using i
theorem Rp.pair_mk {a b:Ty} {h i:List Tag} {d e:List Value} {x:El a} {y:El b} {f g:List Nat} (j:Rp w F St Al a h d x f) (k:Rp w F St Al b i e y g) :
  Rp w F St Al (.pair a b) (h++i) (d++e) (x,y) (f++g):=⟨h,i,d,e,f,g,rfl,rfl,rfl,j,k⟩
theorem Rp.get:{path:List Step}->{τ:Ty}->{tg:List Tag}->{cs j:List Value}->{x:El τ}->{fp:List Nat}->{base f:Option (Nat×Nat)}->{u:TVal} ->
  Rp w F St Al τ tg cs x fp->Z00 w τ cs base path=some (j,f)->Z04 τ x tg path=some u ->
  ∃ g,Rp w F St Al u.τ u.tg j u.x g/\∀ b∈g,b∈fp
 | [],τ,tg,cs,j,x,fp,base,f,u,h,d,m=>by
  simp only [Z00,Option.some.injEq,Prod.mk.injEq] at d
  obtain ⟨rfl,rfl⟩:=d
  cases τ<;>(simp only [Z04,Option.some.injEq] at m;subst m;exact ⟨fp,h,λ_ h=>h⟩)
 | .fst::p,.pair a b,tg,cs,j,x,fp,base,f,u,h,d,m=>by
  obtain ⟨K,L,rfl,E,G⟩:=h.pair_parts
  obtain ⟨g,n,q⟩:=Rp.get (path:=p) E d m
  exact ⟨g,n,λb z=>List.mem_append_left _ (q b z)⟩
 | .snd::p,.pair a b,tg,cs,j,x,fp,base,f,u,h,d,m=>by
  obtain ⟨K,L,rfl,E,G⟩:=h.pair_parts
  obtain ⟨g,n,q⟩:=Rp.get (path:=p) G d m
  exact ⟨g,n,λb z=>List.mem_append_right _ (q b z)⟩
 | .idx i::p,.slice e,tg,cs,j,x,fp,base,f,u,h,d,m=>by
  obtain ⟨t,a,cap,rfl,rfl,Q,h⟩:=h
  simp only [Z00] at d
  split at d
  ·rename_i b o len D v
   simp only [List.cons.injEq,Value.slice.injEq,and_true] at v
   obtain ⟨rfl,rfl,rfl⟩:=v
   split at d
   ·rename_i y
    split at d
    ·rename_i J r
     simp only [Z04,List.headD_cons] at m
     rw [Z4f _ _ _ y] at m
     rcases h with ⟨_,T,_⟩ | ⟨U,H,o',fps,k,P,rfl,R,W,M,B⟩ | ⟨U,rfl,h⟩
     ·cases T
     ·simp only [Option.some.injEq,Addr.mk.injEq,and_true] at k
      obtain ⟨rfl,rfl⟩:=k
      obtain ⟨I,l,C⟩:=B i y
      rw [r] at l
      cases l
      obtain ⟨g,n,q⟩:=Rp.get (path:=p) C d m
      refine ⟨g,n,λc A=>List.mem_cons_of_mem _ (List.mem_flatten.2 ⟨_,?_,q c A⟩)⟩
      rw [List.getD_eq_getElem?_getD,List.getElem?_eq_getElem (by omega)]
      exact List.getElem_mem _
     ·rcases h with h | ⟨H,o',k,V,M,B⟩
      ·subst h;simp at y
      ·simp only [Option.some.injEq,Addr.mk.injEq,and_true] at k
       obtain ⟨rfl,rfl⟩:=k
       obtain ⟨I,l,C⟩:=B i y
       rw [r] at l
       cases l
       obtain ⟨g,n,q⟩:=Rp.get (path:=p) C d m
       exact ⟨g,n,λc A=>by simpa using q c A⟩
    ·cases d
   ·cases d
  ·cases d
 | .fst::_,.int _,_,_,_,_,_,_,_,_,_,d,_=>by simp [Z00] at d
 | .fst::_,.bool,_,_,_,_,_,_,_,_,_,d,_=>by simp [Z00] at d
 | .fst::_,.str,_,_,_,_,_,_,_,_,_,d,_=>by simp [Z00] at d
 | .fst::_,.unit,_,_,_,_,_,_,_,_,_,d,_=>by simp [Z00] at d
 | .fst::_,.slice _,_,_,_,_,_,_,_,_,_,d,_=>by simp [Z00] at d
 | .snd::_,.int _,_,_,_,_,_,_,_,_,_,d,_=>by simp [Z00] at d
 | .snd::_,.bool,_,_,_,_,_,_,_,_,_,d,_=>by simp [Z00] at d
 | .snd::_,.str,_,_,_,_,_,_,_,_,_,d,_=>by simp [Z00] at d
 | .snd::_,.unit,_,_,_,_,_,_,_,_,_,d,_=>by simp [Z00] at d
 | .snd::_,.slice _,_,_,_,_,_,_,_,_,_,d,_=>by simp [Z00] at d
 | .idx _::_,.int _,_,_,_,_,_,_,_,_,_,d,_=>by simp [Z00] at d
 | .idx _::_,.bool,_,_,_,_,_,_,_,_,_,d,_=>by simp [Z00] at d
 | .idx _::_,.str,_,_,_,_,_,_,_,_,_,d,_=>by simp [Z00] at d
 | .idx _::_,.unit,_,_,_,_,_,_,_,_,_,d,_=>by simp [Z00] at d
 | .idx _::_,.pair _ _,_,_,_,_,_,_,_,_,_,d,_=>by simp [Z00] at d
def Z0g:Ty->List Step->Nat
 | .pair a b,.fst::p=>Z0g a p
 | .pair a b,.snd::p=>size a+Z0g b p
 | _,_=>0
def Z0c (cs:List Value) (o:Nat) (l:List Value):List Value:=cs.take o++l++cs.drop (o+l.length)
def Z0m (w:World) (b o:Nat) (l:List Value):World:=
 { w with heap:=w.heap.modify b λd=>match d with | .cells c T fr=> .cells (Z0c c.toList o l).toArray T fr | x=>x }
theorem Z1U {cs l:List Value} {o:Nat} (h:o+l.length<=cs.length):(Z0c cs o l).length=cs.length:=by
 unfold Z0c;simp;omega
theorem Z2Y {cs l:List Value} (h:l.length=cs.length):Z0c cs 0 l=l:=by
 unfold Z0c;simp [h]
theorem Z4w {cs l:List Value} {o o' n:Nat} (h:o+n<=o'\/o'+l.length<=o) (d:o'+l.length<=cs.length) :
  ((Z0c cs o' l).drop o).take n=(cs.drop o).take n:=by
 apply List.ext_getElem?
 intro i
 unfold Z0c
 simp only [List.getElem?_take,List.getElem?_drop]
 by_cases b:i<n
 ·simp only [b,if_true]
  rcases h with h | h
  ·rw [List.append_assoc,List.getElem?_append_left (by simp;omega),List.getElem?_take_of_lt (by omega)]
  ·rw [List.getElem?_append_right (by simp;omega)]
   simp only [List.length_append,List.length_take,List.getElem?_drop]
   congr 1
   omega
 ·simp [b]
theorem Z4N {cs l:List Value} {o o' n:Nat} (h:o<=o') (d:o'+l.length<=o+n) (g:o+n<=cs.length) :
  ((Z0c cs o' l).drop o).take n=Z0c ((cs.drop o).take n) (o'-o) l:=by
 apply List.ext_getElem?
 intro i
 unfold Z0c
 simp only [List.getElem?_take,List.getElem?_drop]
 by_cases b:i<n
 ·simp only [b,if_true]
  by_cases e:o+i<o'
  ·rw [List.append_assoc,List.getElem?_append_left (by simp;omega),List.getElem?_take_of_lt (by omega)]
   rw [List.append_assoc,List.getElem?_append_left (by simp;omega),List.getElem?_take_of_lt (by omega),List.getElem?_take_of_lt (by omega),List.getElem?_drop]
  ·by_cases f:o+i<o'+l.length
   ·rw [List.append_assoc,List.getElem?_append_right (by simp;omega),List.getElem?_append_left (by simp;omega)]
    rw [List.append_assoc,List.getElem?_append_right (by simp;omega),List.getElem?_append_left (by simp;omega)]
    congr 1
    simp;omega
   ·rw [List.getElem?_append_right (by simp;omega),List.getElem?_append_right (by simp;omega)]
    simp only [List.length_append,List.length_take,List.getElem?_drop,List.length_drop,List.getElem?_take]
    rw [if_pos (by omega)]
    congr 1
    omega
 ·simp only [b,if_false]
  rw [List.getElem?_eq_none]
  simp;omega
theorem Z15 {w:World} {b o:Nat} {l:List Value} {c:Nat} (h:c≠b):(Z0m w b o l).heap[c]? = w.heap[c]? := by
 simp only [Z0m,Array.getElem?_modify]
 rw [if_neg (by omega)]
theorem Z10 {w w':World} {b:Nat} (h:w'.heap[b]? = w.heap[b]?) (o n:Nat):Z05 w' b o n=Z05 w b o n:=by
 unfold Z05;rw [h]
theorem Z3N {w w':World} {b n:Nat} (h:w'.heap[b]? = w.heap[b]?):Row w' b n↔Row w b n:=by
 unfold Row;rw [h]
theorem Z2k {w:World} {b o' o n:Nat} {l cs:List Value} (j:∃ m,o'+l.length<=m/\Row w b m) (h:o+n<=o'\/o'+l.length<=o) (d:Z05 w b o n=some cs) :
  Z05 (Z0m w b o' l) b o n=some cs:=by
 obtain ⟨m,p,c,T,fr,i,q,_⟩:=j
 have e:o'+l.length<=c.toList.length:=by have:c.toList.length=c.size:=Array.length_toList;omega
 have g:(Z0c c.toList o' l).toArray.size=c.size:=by rw [List.size_toArray,Z1U e,Array.length_toList]
 have k:(Z0m w b o' l).heap[b]? = some (.cells (Z0c c.toList o' l).toArray T fr):=by
  simp only [Z0m,Array.getElem?_modify,i,if_true,Option.map_some]
 unfold Z05 at *
 rw [i] at d
 rw [k]
 simp only [] at d ⊢
 by_cases f:o+n<=c.size
 ·rw [if_pos f] at d
  rw [if_pos (by rw [g];exact f),List.toList_toArray,Z4w h e]
  exact d
 ·rw [if_neg f] at d;cases d
theorem Z3H {w:World} {b o' o n:Nat} {l cs:List Value} (h:o<=o') (i:o'+l.length<=o+n) (d:Z05 w b o n=some cs) :
  Z05 (Z0m w b o' l) b o n=some (Z0c cs (o'-o) l):=by
 unfold Z05 at d
 split at d
 ·rename_i c T fr j
  split at d
  ·rename_i g
   cases d
   have e:o'+l.length<=c.toList.length:=by have:c.toList.length=c.size:=Array.length_toList;omega
   have f:(Z0c c.toList o' l).toArray.size=c.size:=by rw [List.size_toArray,Z1U e,Array.length_toList]
   have k:(Z0m w b o' l).heap[b]? = some (.cells (Z0c c.toList o' l).toArray T fr):=by
    simp only [Z0m,Array.getElem?_modify,j,if_true,Option.map_some]
   unfold Z05
   rw [k]
   simp only []
   rw [if_pos (by rw [f];exact g),List.toList_toArray,Z4N h i (by have:c.toList.length=c.size:=Array.length_toList;omega)]
  ·cases d
 ·cases d
theorem Z4P {w:World} {b o' n m:Nat} {l:List Value} (u:o'+l.length<=m) (g:Row w b m) (h:Row w b n):Row (Z0m w b o' l) b n:=by
 obtain ⟨c,T,fr,e,v,ht⟩:=h
 obtain ⟨q,p,f,d,i,_⟩:=g
 rw [e] at d
 cases d
 have k:(Z0c c.toList o' l).toArray.size=c.size:=by
  rw [List.size_toArray,Z1U (by have:c.toList.length=c.size:=Array.length_toList;omega),Array.length_toList]
 refine ⟨(Z0c c.toList o' l).toArray,T,fr,?_,by omega,λj r=>ht j (by omega)⟩
 simp only [Z0m,Array.getElem?_modify,e,if_true,Option.map_some]
theorem Z2D {w w':World} {b:Nat} (h:w'.heap[b]? = w.heap[b]?):Z2C w' b↔Z2C w b:=by
 unfold Z2C;rw [h]
theorem Z3D {w:World} {b o' m:Nat} {l:List Value} (q:o'+l.length<=m) (i:Row w b m) (h:Z2C w b):Z2C (Z0m w b o' l) b:=by
 obtain ⟨c,T,fr,f,j⟩:=h
 obtain ⟨p,n,g,d,k,_⟩:=i
 rw [f] at d
 cases d
 have e:(Z0c c.toList o' l).toArray.size=c.size:=by
  rw [List.size_toArray,Z1U (by have:c.toList.length=c.size:=Array.length_toList;omega),Array.length_toList]
 refine ⟨(Z0c c.toList o' l).toArray,T,fr,?_,by rw [e];exact j⟩
 simp only [Z0m,Array.getElem?_modify,f,if_true,Option.map_some]
def Z7o (w:World) (base:Option (Nat×Nat)) (l:List Value):World:=match base with | some (b,o)=>Z0m w b o l | none=>w
theorem Z3L (l:List (List Nat)) (i:Nat) (h:i<l.length):(l.flatten).Perm ((l.set i []).flatten++l[i]):=by
 induction l generalizing i with
 | nil=>simp at h
 | cons a l b=>
  cases i with
  | zero=>simp only [List.set_cons_zero,List.flatten_cons,List.getElem_cons_zero,List.nil_append];exact List.perm_append_comm
  | succ i=>
   simp only [List.set_cons_succ,List.flatten_cons,List.getElem_cons_succ,List.append_assoc]
   exact List.Perm.append_left _ (b i (by simpa using h))
theorem Z5w (l:List (List Nat)) (i:Nat) (m:List Nat) (h:i<l.length):((l.set i m).flatten).Perm ((l.set i []).flatten++m):=by
 have:=Z3L (l.set i m) i (by simpa using h)
 simpa using this
end
end Go.PI
namespace Go.PI
section
variable {w:World} {F:Nat->Nat} {St Al:Nat->Prop}
theorem Rp.presO {w':World} {F':Nat->Nat} {St' Al':Nat->Prop} :
  {τ:Ty}->{tg:List Tag}->{cs:List Value}->{x:El τ}->{fp:List Nat}->Rp w F St Al τ tg cs x fp->(∀ t∈tg,t= .O) ->
  (∀ b∈fp,Z07 w F w' F' b/\F' b=F b/\(Al b->Al' b))->Rp w' F' St' Al' τ tg cs x fp
 | .int _,_,_,_,_,h,_,_=>h
 | .bool,_,_,_,_,h,_,_=>h
 | .str,_,_,_,_,h,_,_=>h
 | .unit,_,_,_,_,h,_,_=>h
 | .pair a b,_,_,_,_,h,g,f=>by
  obtain ⟨I,J,u,v,y,z,rfl,rfl,rfl,A,B⟩:=h
  exact ⟨I,J,u,v,y,z,rfl,rfl,rfl,Rp.presO A (λt ht=>g t (List.mem_append_left _ ht)) (λb d=>f b (List.mem_append_left _ d)),
   Rp.presO B (λt ht=>g t (List.mem_append_right _ ht)) (λb d=>f b (List.mem_append_right _ d))⟩
 | .slice e,_,_,x,_,h,g,f=>by
  obtain ⟨t,a,cap,rfl,rfl,n,h⟩:=h
  obtain rfl:=g t (by simp)
  refine ⟨.O,a,cap,rfl,rfl,n,?_⟩
  rcases h with h | ⟨p,b,o,fps,C,j,rfl,G,H,q,E⟩ | ⟨p,_⟩
  ·exact .inl h
  ·have d:=f b (by simp)
   refine .inr (.inl ⟨p,b,o,fps,C,d.2.2 j,rfl,G,d.1.rowE H,by rw [d.2.1];exact q,λk r=> ?_⟩)
   obtain ⟨i,D,m⟩:=E k r
   refine ⟨i,d.1.2.1 _ _ _ ?_ D,Rp.presO m (by simp [Tag.inner]) (λc l=>f c ?_)⟩
   ·rw [q]
    have:(k+1) * size e<=List.length (α:=El e) x * size e:=Nat.mul_le_mul_right _ r
    rw [Nat.add_mul,Nat.one_mul] at this
    omega
   ·refine List.mem_cons_of_mem _ (List.mem_flatten.2 ⟨_,?_,l⟩)
    rw [List.getD_eq_getElem?_getD,List.getElem?_eq_getElem (by omega)]
    exact List.getElem_mem _
  ·cases p
theorem Z1v:{path:List Step}->{τ:Ty}->{x:El τ}->{tg:List Tag}->{u:TVal}->Z08 path=true->Z04 τ x tg path=some u->Z0g τ path+size u.τ<=size τ
 | [],τ,x,tg,u,_,h=>by cases τ<;>(simp only [Z04,Option.some.injEq] at h;subst h;simp [Z0g])
 | .fst::p,.pair a b,x,tg,u,d,h=>by
  have:=Z1v (path:=p) d h
  simp only [Z0g,size];omega
 | .snd::p,.pair a b,x,tg,u,d,h=>by
  have:=Z1v (path:=p) d h
  simp only [Z0g,size];omega
 | .idx _::_,_,_,_,_,d,_=>by simp [Z08] at d
 | .fst::_,.int _,_,_,_,_,h=>by simp [Z04] at h
 | .fst::_,.bool,_,_,_,_,h=>by simp [Z04] at h
 | .fst::_,.str,_,_,_,_,h=>by simp [Z04] at h
 | .fst::_,.unit,_,_,_,_,h=>by simp [Z04] at h
 | .fst::_,.slice _,_,_,_,_,h=>by simp [Z04] at h
 | .snd::_,.int _,_,_,_,_,h=>by simp [Z04] at h
 | .snd::_,.bool,_,_,_,_,h=>by simp [Z04] at h
 | .snd::_,.str,_,_,_,_,h=>by simp [Z04] at h
 | .snd::_,.unit,_,_,_,_,h=>by simp [Z04] at h
 | .snd::_,.slice _,_,_,_,_,h=>by simp [Z04] at h
theorem Z3h {a b l:List Value} {o:Nat} (h:o+l.length<=a.length):Z0c (a++b) o l=Z0c a o l++b:=by
 unfold Z0c
 rw [List.take_append_of_le_length (by omega),List.drop_append_of_le_length (by omega)]
 simp
theorem Z2N {a b l:List Value} {o:Nat}:Z0c (a++b) (a.length+o) l=a++Z0c b o l:=by
 unfold Z0c
 rw [List.take_length_add_append,show a.length+o+l.length=a.length+(o+l.length) by omega,List.drop_length_add_append]
 simp
def Put (w:World) (F:Nat->Nat) (Al:Nat->Prop) (w':World) (F':Nat->Nat) (Al':Nat->Prop) (base:Option (Nat×Nat)) (l:List Value) (b:Nat):Prop:=
 F' b=F b/\(Al b->Al' b)/\w'.heap[b]? = (Z7o w base l).heap[b]?
theorem Put.keep {w':World} {F':Nat->Nat} {Al':Nat->Prop} {base:Option (Nat×Nat)} {l:List Value} {b:Nat} (h:Put w F Al w' F' Al' base l b) (d:∀ y,base=some y->y.1≠b) :
  Z07 w F w' F' b/\F' b=F b/\(Al b->Al' b):=by
 refine ⟨Z07.of_block ?_ (by rw [h.1];exact Nat.le_refl _),h.1,h.2.1⟩
 rw [h.2.2]
 cases base with
 | none=>rfl
 | some y=>exact Z15 (by have:=d y rfl;omega)
structure Lens (w:World) (F:Nat->Nat) (St Al:Nat->Prop) (τ:Ty) (tg:List Tag) (cs:List Value) (x:El τ) (fp:List Nat) (base:Option (Nat×Nat)) (path:List Step)
  (cs':List Value) (base':Option (Nat×Nat)) (u:TVal) (fpo fpi:List Nat):Prop where
 perm:fp.Perm (fpo++fpi)
 part:Rp w F St Al u.τ u.tg cs' u.x fpi
 tags:∀ t∈u.tg,t= .O
 deep:Z08 path=false->∃ b' o' m,base'=some (b',o')/\b'∈fpo/\o'+size u.τ<=m/\Row w b' m
 flat:Z08 path=true->base'=base.map λy=>(y.1,y.2+Z0g τ path)
 put:∀ (w':World) (F':Nat->Nat) (St' Al':Nat->Prop) (v:TVal) (csv:List Value) (fpv:List Nat) (x':El τ) (tg':List Tag),
  Z0J τ x tg path v=some (x',tg')->v.τ=u.τ->(∀ t∈v.tg,t= .O)->Rp w' F' St' Al' v.τ v.tg csv v.x fpv ->
  (∀ b∈fpo,Put w F Al w' F' Al' base' csv b) ->
  ∃ fpn,fpn.Perm (fpo++fpv)/\(∀ t∈tg',t= .O)/\Rp w' F' St' Al' τ tg' (if Z08 path then Z0c cs (Z0g τ path) csv else cs) x' fpn
theorem Rp.lens:{path:List Step}->{τ:Ty}->{tg:List Tag}->{cs I:List Value}->{x:El τ}->{fp:List Nat}->{base f:Option (Nat×Nat)}->{u:TVal} ->
  Rp w F St Al τ tg cs x fp->(∀ t∈tg,t= .O)->fp.Nodup->(∀ y,base=some y->y.1 ∉ fp)->Z00 w τ cs base path=some (I,f)->Z04 τ x tg path=some u ->
  ∃ E R,Lens w F St Al τ tg cs x fp base path I f u E R
 | [],τ,tg,cs,I,x,fp,base,f,u,h,V,hn,hb,d,U=>by
  simp only [Z00,Option.some.injEq,Prod.mk.injEq] at d
  obtain ⟨rfl,rfl⟩:=d
  have hu:u=⟨τ,false,x,tg⟩:=by cases τ<;>(simp only [Z04,Option.some.injEq] at U;exact U.symm)
  subst hu
  refine ⟨[],fp,⟨by simp,h,V,by simp [Z08],λ_=> ?_,?_⟩⟩
  ·cases base<;>cases τ<;>simp [Z0g]
  ·intro w' F' St' Al' v C T x' tg' K hv Q B _
   obtain ⟨vτ,vag,vx,vtg⟩:=v
   simp only at hv Q B
   subst hv
   have hs':vx=x'/\vtg=tg':=by
    cases vτ<;>(simp only [Z0J,dif_pos,Option.some.injEq,Prod.mk.injEq] at K;first | exact K | exact ⟨rfl,K.2⟩)
   obtain ⟨rfl,rfl⟩:=hs'
   refine ⟨T,by simp,Q,?_⟩
   have h0:Z0g vτ []=0:=by cases vτ<;>rfl
   simp only [Z08,if_true,h0]
   rw [Z2Y (by rw [B.len.1,h.len.1])]
   exact B
 | .fst::p,.pair a b,tg,cs,I,x,fp,base,f,u,h,V,hn,hb,d,U=>by
  obtain ⟨t1,t2,c1,c2,f1,f2,rfl,rfl,rfl,h1,h2⟩:=h
  have i1:=h1.len
  have hl':Z00 w a c1 base p=some (I,f):=by
   simp only [Z00] at d;rw [<-i1.1] at d;simpa using d
  have J:Z04 a x.1 t1 p=some u:=by
   simp only [Z04] at U;rw [<-i1.2] at U;simpa using U
  have hn1:f1.Nodup:=(List.nodup_append.1 hn).1
  obtain ⟨E,R,L⟩:=Rp.lens (path:=p) h1 (λt ht=>V t (List.mem_append_left _ ht)) hn1 (λy j=>λX=>hb y j (List.mem_append_left _ X)) hl' J
  have P:∀ c∈E,c∈f1:=λc n=>L.perm.symm.subset (List.mem_append_left _ n)
  refine ⟨E++f2,R,⟨?_,L.part,L.tags,?_,?_,?_⟩⟩
  ·refine (List.Perm.append_right f2 L.perm).trans ?_
   rw [List.append_assoc,List.append_assoc]
   exact List.Perm.append_left _ List.perm_append_comm
  ·intro hf
   obtain ⟨b',o',m,H,G,h5⟩:=L.deep hf
   exact ⟨b',o',m,H,List.mem_append_left _ G,h5⟩
  ·intro hf;exact L.flat hf
  ·intro w' F' St' Al' v C T x' tg' K hv Q B hp
   simp only [Z0J] at K
   rw [<-i1.2] at K
   simp only [List.take_left',List.drop_left',Option.map_eq_some_iff] at K
   obtain ⟨⟨xa,ta⟩,Z,M⟩:=K
   simp only [Prod.mk.injEq] at M
   obtain ⟨rfl,rfl⟩:=M
   obtain ⟨D,Y,ab,r⟩:=L.put w' F' St' Al' v C T xa ta Z hv Q B (λc n=>hp c (List.mem_append_left _ n))
   have h2':Rp w' F' St' Al' b t2 c2 x.2 f2:=h2.presO (λt ht=>V t (List.mem_append_right _ ht)) λc n=>by
    refine (hp c (List.mem_append_right _ n)).keep ?_
    intro y j he
    cases g:Z08 p with
    | true=>
     have:=L.flat g
     rw [this] at j
     cases q:base with
     | none=>rw [q] at j;cases j
     | some z=>rw [q] at j;cases j;have he':z.1=c:=he;exact hb z q (by rw [he'];exact List.mem_append_right _ n)
    | false=>
     obtain ⟨b',o',m,H,G,h5⟩:=L.deep g
     rw [H] at j
     cases j
     exact (List.nodup_append.1 hn).2.2 _ (P _ G) _ n he
   refine ⟨D++f2,?_,?_,?_⟩
   ·refine (List.Perm.append_right f2 Y).trans ?_
    rw [List.append_assoc,List.append_assoc]
    exact List.Perm.append_left _ List.perm_append_comm
   ·intro t ht
    rcases List.mem_append.1 ht with ht | ht
    ·exact ab t ht
    ·exact V t (List.mem_append_right _ ht)
   ·have hfe:Z08 (.fst::p)=Z08 p:=rfl
    rw [hfe]
    cases g:Z08 p with
    | true=>
     simp only [g,if_true] at r ⊢
     have hsz:=Z1v g J
     rw [show Z0g (a.pair b) (.fst::p)=Z0g a p from rfl,Z3h (by rw [B.len.1,hv,i1.1];omega)]
     exact Rp.pair_mk r h2'
    | false=>
     simp only [g,Bool.false_eq_true,if_false] at r ⊢
     exact Rp.pair_mk r h2'
 | .snd::p,.pair a b,tg,cs,I,x,fp,base,f,u,h,V,hn,hb,d,U=>by
  obtain ⟨t1,t2,c1,c2,f1,f2,rfl,rfl,rfl,h1,h2⟩:=h
  have i1:=h1.len
  have hl':Z00 w b c2 (base.map λx=>(x.1,x.2+size a)) p=some (I,f):=by
   simp only [Z00] at d;rw [<-i1.1] at d ⊢;simpa using d
  have J:Z04 b x.2 t2 p=some u:=by
   simp only [Z04] at U;rw [<-i1.2] at U;simpa using U
  have hn1:f2.Nodup:=(List.nodup_append.1 hn).2.1
  obtain ⟨E,R,L⟩:=Rp.lens (path:=p) h2 (λt ht=>V t (List.mem_append_right _ ht)) hn1 (λy j=>λX=>by
   cases q:base with
   | none=>rw [q] at j;cases j
   | some z=>rw [q] at j;cases j;exact hb z q (List.mem_append_right _ X)) hl' J
  have P:∀ c∈E,c∈f2:=λc n=>L.perm.symm.subset (List.mem_append_left _ n)
  refine ⟨f1++E,R,⟨?_,L.part,L.tags,?_,?_,?_⟩⟩
  ·rw [List.append_assoc]
   exact List.Perm.append_left f1 L.perm
  ·intro hf
   obtain ⟨b',o',m,H,G,h5⟩:=L.deep hf
   exact ⟨b',o',m,H,List.mem_append_right _ G,h5⟩
  ·intro hf
   rw [L.flat hf]
   cases base with
   | none=>rfl
   | some z=>simp [Z0g,Nat.add_assoc]
  ·intro w' F' St' Al' v C T x' tg' K hv Q B hp
   simp only [Z0J] at K
   rw [<-i1.2] at K
   simp only [List.take_left',List.drop_left',Option.map_eq_some_iff] at K
   obtain ⟨⟨xa,ta⟩,Z,M⟩:=K
   simp only [Prod.mk.injEq] at M
   obtain ⟨rfl,rfl⟩:=M
   obtain ⟨D,Y,ab,r⟩:=L.put w' F' St' Al' v C T xa ta Z hv Q B (λc n=>hp c (List.mem_append_right _ n))
   have h1':Rp w' F' St' Al' a t1 c1 x.1 f1:=h1.presO (λt ht=>V t (List.mem_append_left _ ht)) λc n=>by
    refine (hp c (List.mem_append_left _ n)).keep ?_
    intro y j he
    cases g:Z08 p with
    | true=>
     have:=L.flat g
     rw [this] at j
     cases q:base with
     | none=>rw [q] at j;cases j
     | some z=>rw [q] at j;cases j;have he':z.1=c:=he;exact hb z q (by rw [he'];exact List.mem_append_left _ n)
    | false=>
     obtain ⟨b',o',m,H,G,h5⟩:=L.deep g
     rw [H] at j
     cases j
     exact (List.nodup_append.1 hn).2.2 _ n _ (P _ G) he.symm
   refine ⟨f1++D,?_,?_,?_⟩
   ·rw [List.append_assoc]
    exact List.Perm.append_left f1 Y
   ·intro t ht
    rcases List.mem_append.1 ht with ht | ht
    ·exact V t (List.mem_append_left _ ht)
    ·exact ab t ht
   ·have hfe:Z08 (.snd::p)=Z08 p:=rfl
    rw [hfe]
    cases g:Z08 p with
    | true=>
     simp only [g,if_true] at r ⊢
     rw [show Z0g (a.pair b) (.snd::p)=size a+Z0g b p from rfl,<-i1.1,Z2N]
     exact Rp.pair_mk h1' r
    | false=>
     simp only [g,Bool.false_eq_true,if_false] at r ⊢
     exact Rp.pair_mk h1' r
 | .idx i::p,.slice e,tg,cs,I,x,fp,base,f,u,h,V,hn,hb,d,U=>by
  obtain ⟨t,a,cap,rfl,rfl,hlc,h⟩:=h
  obtain rfl:=V t (by simp)
  simp only [Z00] at d
  split at d
  ·rename_i b o len cap' heq
   simp only [List.cons.injEq,Value.slice.injEq,and_true] at heq
   obtain ⟨rfl,rfl,rfl⟩:=heq
   split at d
   ·rename_i hi
    split at d
    ·rename_i cse hce
     rcases h with ⟨_,hnn,_⟩ | ⟨ho,b',o',fps,hbb,hal,rfl,hlf,hr,hF,he⟩ | ⟨ho,_⟩
     ·cases hnn
     ·simp only [Option.some.injEq,Addr.mk.injEq,and_true] at hbb
      obtain ⟨rfl,rfl⟩:=hbb
      obtain ⟨c2,hc2,hk⟩:=he i hi
      rw [hce] at hc2
      cases hc2
      have J:Z04 e (List.get (α:=El e) x ⟨i,hi⟩) (List.replicate (Z06 e) .O) p=some u:=by
       simp only [Z04,List.headD_cons,Tag.inner] at U
       rw [Z4f _ _ _ hi] at U
       exact U
      have hfi:fps.getD i []=fps[i]'(by omega):=by rw [List.getD_eq_getElem?_getD,List.getElem?_eq_getElem (by omega)];rfl
      have hnf:fps.flatten.Nodup:=(List.nodup_cons.1 hn).2
      have hbn:b ∉ fps.flatten:=(List.nodup_cons.1 hn).1
      have hpf:=Z3L fps i (by omega)
      have aa:∀ c∈fps[i]'(by omega),c∈fps.flatten:=λc n=>List.mem_flatten.2 ⟨_,List.getElem_mem _,n⟩
      have hni:(fps[i]'(by omega)).Nodup:=((List.nodup_append.1 ((hpf.nodup_iff).1 hnf)).2.1)
      have hbnd:o+i * size e+size e<=o+cap * size e:=by
       have:(i+1) * size e<=cap * size e:=Nat.mul_le_mul_right _ (by omega)
       rw [Nat.add_mul,Nat.one_mul] at this
       omega
      rw [hfi] at hk
      obtain ⟨E,R,L⟩:=Rp.lens (path:=p) hk (by simp [Tag.inner]) hni (λy j=>by
       cases j;exact λX=>hbn (aa _ X)) d J
      have P:∀ c∈E,c∈fps[i]'(by omega):=λc n=>L.perm.symm.subset (List.mem_append_left _ n)
      refine ⟨b::((fps.set i []).flatten++E),R,⟨?_,L.part,L.tags,?_,by simp [Z08],?_⟩⟩
      ·rw [List.cons_append]
       refine List.Perm.cons _ (hpf.trans ?_)
       rw [List.append_assoc]
       exact List.Perm.append_left _ L.perm
      ·intro _
       cases g:Z08 p with
       | true=>
        have H:=L.flat g
        simp only [Option.map_some] at H
        have hsz:=Z1v g J
        exact ⟨b,_,o+cap * size e,H,by simp,by omega,hr.1⟩
       | false=>
        obtain ⟨b',o',m,H,G,h5⟩:=L.deep g
        exact ⟨b',o',m,H,by simp [G],h5⟩
      ·intro w' F' St' Al' v C T x' tg' K hv Q B hp
       simp only [Z0J,List.headD_cons,Tag.inner,Option.map_eq_some_iff] at K
       rw [Z4f _ _ _ hi] at K
       obtain ⟨⟨xa,ta⟩,Z,M⟩:=K
       simp only [Prod.mk.injEq] at M
       obtain ⟨rfl,rfl⟩:=M
       obtain ⟨D,Y,ab,r⟩:=L.put w' F' St' Al' v C T xa ta Z hv Q B (λc n=>hp c (by simp [n]))
       have hta:ta=List.replicate (Z06 e) .O:=by
        refine List.eq_replicate_iff.2 ⟨r.len.2,λt ht=>ab t ht⟩
       subst hta
       have hpb:=hp b (by simp)
       have W:∀ y,f=some y->(Z08 p=true/\y=(b,o+i * size e+Z0g e p))\/(Z08 p=false/\y.1∈fps[i]'(by omega)):=by
        intro y j
        cases g:Z08 p with
        | true=>
         have H:=L.flat g
         rw [H] at j
         simp only [Option.map_some,Option.some.injEq] at j
         exact .inl ⟨rfl,j.symm⟩
        | false=>
         obtain ⟨b',o',m,H,G,h5⟩:=L.deep g
         rw [H] at j
         cases j
         exact .inr ⟨rfl,P _ G⟩
       have hcl:C.length=size u.τ:=by rw [B.len.1,hv]
       have hrow:(Z3i e w' b (o+cap * size e))/\∀ k (hk:k<List.length (α:=El e) x) c,Z05 w b (o+k * size e) (size e)=some c ->
         Z05 w' b (o+k * size e) (size e)=some (if k=i then (if Z08 p then Z0c c (Z0g e p) C else c) else c):=by
        cases g:Z08 p with
        | true=>
         have hsz:=Z1v g J
         have H:f=some (b,o+i * size e+Z0g e p):=by rw [L.flat g];rfl
         have G:w'.heap[b]? = (Z0m w b (o+i * size e+Z0g e p) C).heap[b]? := by rw [hpb.2.2,H];rfl
         refine ⟨⟨(Z3N G).2 (Z4P (m:=o+cap * size e) (by omega) hr.1 hr.1),hr.2.imp id λX=>(Z2D G).2 (Z3D (m:=o+cap * size e) (by omega) hr.1 X)⟩,λk hk c n=> ?_⟩
         rw [Z10 G]
         by_cases A:k=i
         ·subst A
          simp only [if_true]
          have:=Z3H (w:=w) (o':=o+k * size e+Z0g e p) (l:=C) (by omega) (by omega) n
          rw [show o+k * size e+Z0g e p-(o+k * size e)=Z0g e p by omega] at this
          exact this
         ·simp only [A,if_false]
          refine Z2k ⟨o+cap * size e,by omega,hr.1⟩ ?_ n
          rcases Nat.lt_or_gt_of_ne A with hlt | hgt
          ·left
           have:(k+1) * size e<=i * size e:=Nat.mul_le_mul_right _ hlt
           rw [Nat.add_mul,Nat.one_mul] at this
           omega
          ·right
           have:(i+1) * size e<=k * size e:=Nat.mul_le_mul_right _ hgt
           rw [Nat.add_mul,Nat.one_mul] at this
           omega
        | false=>
         have G:w'.heap[b]? = w.heap[b]? := by
          rw [hpb.2.2]
          cases q:f with
          | none=>rfl
          | some y=>
           rcases W y q with ⟨hf,_⟩ | ⟨_,X⟩
           ·rw [g] at hf;cases hf
           ·exact Z15 (λhe=>hbn (aa _ (by rw [he];exact X)))
         refine ⟨⟨(Z3N G).2 hr.1,hr.2.imp id (Z2D G).2⟩,λk hk c n=> ?_⟩
         rw [Z10 G,n]
         by_cases A:k=i<;>simp [A]
       refine ⟨b::(fps.set i D).flatten,?_,by simp,?_⟩
       ·rw [List.cons_append]
        refine List.Perm.cons _ ((Z5w fps i D (by omega)).trans ?_)
        rw [List.append_assoc]
        exact List.Perm.append_left _ Y
       ·simp only [Z08,Bool.false_eq_true,if_false]
        refine ⟨.O,some ⟨b,o,none⟩,cap,rfl,by simp,by simpa using hlc,.inr (.inl ⟨rfl,b,o,fps.set i D,rfl,hpb.2.1 hal,rfl,by simpa using hlf,hrow.1,?_,λk hk=> ?_⟩)⟩
        ·rw [hpb.1,hF];simp
        ·have hk0:k<List.length (α:=El e) x:=by simpa using hk
         obtain ⟨c,n,hkr⟩:=he k hk0
         refine ⟨_,hrow.2 k hk0 c n,?_⟩
         by_cases A:k=i
         ·subst A
          rw [hce] at n
          cases n
          simp only [if_true]
          have e1:List.get (α:=El e) (List.set x k xa) ⟨k,hk⟩=xa:=by simp
          have e2:(fps.set k D).getD k []=D:=by
           rw [List.getD_eq_getElem?_getD,List.getElem?_set_self (by omega)];rfl
          rw [e1,e2]
          exact r
         ·simp only [A,if_false]
          have e1:List.get (α:=El e) (List.set x i xa) ⟨k,hk⟩=List.get (α:=El e) x ⟨k,hk0⟩:=by
           simp only [List.get_eq_getElem];exact List.getElem_set_ne (Ne.symm A) _
          have e2:(fps.set i D).getD k []=fps.getD k []:=by
           simp only [List.getD_eq_getElem?_getD];rw [List.getElem?_set_ne (Ne.symm A)]
          rw [e1,e2]
          refine hkr.presO (by simp [Tag.inner]) λc hcm=> ?_
          have hck:c∈(fps.set i []).flatten:=by
           refine List.mem_flatten.2 ⟨fps[k]'(by omega),?_,?_⟩
           ·have:(fps.set i [])[k]'(by simp;omega)=fps[k]'(by omega):=List.getElem_set_ne (Ne.symm A) _
            rw [<-this];exact List.getElem_mem _
           ·rw [List.getD_eq_getElem?_getD,List.getElem?_eq_getElem (by omega)] at hcm;exact hcm
          refine (hp c (by simp [hck])).keep ?_
          intro y j hyc
          rcases W y j with ⟨_,hyb⟩ | ⟨_,X⟩
          ·rw [hyb] at hyc
           simp only at hyc
           refine hbn (List.mem_flatten.2 ⟨fps[k]'(by omega),List.getElem_mem _,?_⟩)
           rw [List.getD_eq_getElem?_getD,List.getElem?_eq_getElem (by omega)] at hcm
           rw [hyc];exact hcm
          ·have:=(List.nodup_append.1 ((hpf.nodup_iff).1 hnf)).2.2 c hck y.1 X
           exact this hyc.symm
     ·cases ho
    ·cases d
   ·cases d
  ·cases d
 | .fst::_,.int _,_,_,_,_,_,_,_,_,_,_,_,_,d,_=>by simp [Z00] at d
 | .fst::_,.bool,_,_,_,_,_,_,_,_,_,_,_,_,d,_=>by simp [Z00] at d
 | .fst::_,.str,_,_,_,_,_,_,_,_,_,_,_,_,d,_=>by simp [Z00] at d
 | .fst::_,.unit,_,_,_,_,_,_,_,_,_,_,_,_,d,_=>by simp [Z00] at d
 | .fst::_,.slice _,_,_,_,_,_,_,_,_,_,_,_,_,d,_=>by simp [Z00] at d
 | .snd::_,.int _,_,_,_,_,_,_,_,_,_,_,_,_,d,_=>by simp [Z00] at d
 | .snd::_,.bool,_,_,_,_,_,_,_,_,_,_,_,_,d,_=>by simp [Z00] at d
 | .snd::_,.str,_,_,_,_,_,_,_,_,_,_,_,_,d,_=>by simp [Z00] at d
 | .snd::_,.unit,_,_,_,_,_,_,_,_,_,_,_,_,d,_=>by simp [Z00] at d
 | .snd::_,.slice _,_,_,_,_,_,_,_,_,_,_,_,_,d,_=>by simp [Z00] at d
 | .idx _::_,.int _,_,_,_,_,_,_,_,_,_,_,_,_,d,_=>by simp [Z00] at d
 | .idx _::_,.bool,_,_,_,_,_,_,_,_,_,_,_,_,d,_=>by simp [Z00] at d
 | .idx _::_,.str,_,_,_,_,_,_,_,_,_,_,_,_,d,_=>by simp [Z00] at d
 | .idx _::_,.unit,_,_,_,_,_,_,_,_,_,_,_,_,d,_=>by simp [Z00] at d
 | .idx _::_,.pair _ _,_,_,_,_,_,_,_,_,_,_,_,_,d,_=>by simp [Z00] at d
end
end Go.PI
namespace Go.PI
theorem Z3e {w w':World} {F F':Nat->Nat} {St Al:Nat->Prop} (n:∀ b,St b->Z07 w F w' F' b) :
  {path:List Step}->{τ:Ty}->{tg:List Tag}->{cs:List Value}->{x:El τ}->{fp:List Nat}->{base:Option (Nat×Nat)}->{r:List Value×Option (Nat×Nat)} ->
  Rp w F St Al τ tg cs x fp->(∀ b∈fp,Z07 w F w' F' b)->((∀ t∈tg,t.isN=false)\/∀ b,b<w.heap.size->Al b->Z07 w F w' F' b) ->
  Z00 w τ cs base path=some r->Z00 w' τ cs base path=some r
 | [],τ,tg,cs,x,fp,base,r,h,l,f,d=>by simp only [Z00] at d ⊢;exact d
 | .fst::p,.pair a b,tg,cs,x,fp,base,r,h,l,f,d=>by
  have z:=h.len
  obtain ⟨t1,t2,P,A,R,T,rfl,rfl,rfl,y,J⟩:=h
  have z:=y.len
  simp only [Z00] at d ⊢
  rw [<-z.1] at d ⊢
  rw [List.take_left'] at d ⊢
  all_goals first | rfl | skip
  exact Z3e n (path:=p) y (λb B=>l b (List.mem_append_left _ B)) (f.imp (λh t ht=>h t (List.mem_append_left _ ht)) id) d
 | .snd::p,.pair a b,tg,cs,x,fp,base,r,h,l,f,d=>by
  obtain ⟨t1,t2,P,A,R,T,rfl,rfl,rfl,y,J⟩:=h
  have z:=y.len
  simp only [Z00] at d ⊢
  rw [<-z.1] at d ⊢
  rw [List.drop_left'] at d ⊢
  all_goals first | rfl | skip
  exact Z3e n (path:=p) J (λb B=>l b (List.mem_append_right _ B)) (f.imp (λh t ht=>h t (List.mem_append_right _ ht)) id) d
 | .idx i::p,.slice e,tg,cs,x,fp,base,r,h,l,f,d=>by
  obtain ⟨t,a,cap,rfl,rfl,Y,h⟩:=h
  have m:((∀ t'∈List.replicate (Z06 e) t.inner,t'.isN=false)\/∀ b,b<w.heap.size->Al b->Z07 w F w' F' b):=
   f.imp (λh t' H=>by
    obtain ⟨_,rfl⟩:=List.mem_replicate.1 H
    have:=h t (by simp)
    cases t<;>simp_all [Tag.isN,Tag.inner]) id
  simp only [Z00] at d ⊢
  split at d
  ·rename_i b o len I q
   simp only [List.cons.injEq,Value.slice.injEq,and_true] at q
   obtain ⟨rfl,rfl,rfl⟩:=q
   split at d
   ·rename_i u
    split at d
    ·rename_i Q k
     simp only [u,if_true]
     have W:o+i * size e+size e<=o+List.length (α:=El e) x * size e:=by
      have:(i+1) * size e<=List.length (α:=El e) x * size e:=Nat.mul_le_mul_right _ u
      rw [Nat.add_mul,Nat.one_mul] at this
      omega
     rcases h with ⟨_,hn,_⟩ | ⟨K,L,o',fps,g,V,rfl,Z,hr,U,C⟩ | ⟨K,rfl,h⟩
     ·cases hn
     ·simp only [Option.some.injEq,Addr.mk.injEq,and_true] at g
      obtain ⟨rfl,rfl⟩:=g
      obtain ⟨A,j,D⟩:=C i u
      rw [k] at j
      cases j
      rw [(l b (by simp)).2.1 _ _ _ (by omega) k]
      refine Z3e n (path:=p) D (λc X=>l c ?_) m d
      refine List.mem_cons_of_mem _ (List.mem_flatten.2 ⟨_,?_,X⟩)
      rw [List.getD_eq_getElem?_getD,List.getElem?_eq_getElem (by omega)]
      exact List.getElem_mem _
     ·rcases h with h | ⟨L,o',g,v,U,C⟩
      ·subst h;simp at u
      ·simp only [Option.some.injEq,Addr.mk.injEq,and_true] at g
       obtain ⟨rfl,rfl⟩:=g
       obtain ⟨A,j,D⟩:=C i u
       have E:Z07 w F w' F' b:=by
        rcases f with f | f
        ·have:=f t (by simp)
         cases t<;>simp_all [Tag.isN,Tag.own,Z5g]
        ·cases t with
         | S=>exact n b v
         | N=>exact f b (Z0X k) v
         | _=>cases K
       rw [E.2.1 _ _ _ (by omega) k]
       rw [k] at j
       cases j
       exact Z3e n (path:=p) D (by simp) m d
    ·cases d
   ·cases d
  ·cases d
 | .fst::_,.int _,_,_,_,_,_,_,_,_,_,d=>by simp [Z00] at d
 | .fst::_,.bool,_,_,_,_,_,_,_,_,_,d=>by simp [Z00] at d
 | .fst::_,.str,_,_,_,_,_,_,_,_,_,d=>by simp [Z00] at d
 | .fst::_,.unit,_,_,_,_,_,_,_,_,_,d=>by simp [Z00] at d
 | .fst::_,.slice _,_,_,_,_,_,_,_,_,_,d=>by simp [Z00] at d
 | .snd::_,.int _,_,_,_,_,_,_,_,_,_,d=>by simp [Z00] at d
 | .snd::_,.bool,_,_,_,_,_,_,_,_,_,d=>by simp [Z00] at d
 | .snd::_,.str,_,_,_,_,_,_,_,_,_,d=>by simp [Z00] at d
 | .snd::_,.unit,_,_,_,_,_,_,_,_,_,d=>by simp [Z00] at d
 | .snd::_,.slice _,_,_,_,_,_,_,_,_,_,d=>by simp [Z00] at d
 | .idx _::_,.int _,_,_,_,_,_,_,_,_,_,d=>by simp [Z00] at d
 | .idx _::_,.bool,_,_,_,_,_,_,_,_,_,d=>by simp [Z00] at d
 | .idx _::_,.str,_,_,_,_,_,_,_,_,_,d=>by simp [Z00] at d
 | .idx _::_,.unit,_,_,_,_,_,_,_,_,_,d=>by simp [Z00] at d
 | .idx _::_,.pair _ _,_,_,_,_,_,_,_,_,_,d=>by simp [Z00] at d
inductive Who where
 | s (i:Nat) | c (i:Nat) | a (i:Nat) | x
 deriving DecidableEq
structure Ghost where
 F:Nat->Nat
 St:Nat->Prop
 who:Nat->Option Who
 fs:Nat->List Nat
 fb:Nat->List Nat
 ad:Nat->Nat
def Ghost.Al (G:Ghost) (b:Nat):Prop:=(∀ i,G.who b≠some (.a i))/\(G.who b=none->G.St b)
def Z02:Value->List Value
 | .tuple vs=>vs.toList.flatMap λv=>v.cells.toList
 | v=>v.cells.toList
def one:Value->Bool
 | .agg _=>false
 | .tuple _=>false
 | _=>true
def Z0f:Bool->Value->Prop
 | true,v=>∃ cs,v= .agg cs
 | false,v=>one v=true
theorem Z0f.cells {ag:Bool} {v:Value} (h:Z0f ag v):Z02 v=v.cells.toList:=by
 cases ag
 ·cases v<;>simp_all [Z0f,one,Z02]
 ·obtain ⟨cs,rfl⟩:=h;rfl
def Z1e:Ty->List Bool->List Value->Prop
 | τ,[ag],[v]=>Z0f ag v/\(Z02 v).length=size τ
 | .pair a b,ag::d::ags,v::vs=>Z0f ag v/\(Z02 v).length=size a/\Z1e b (d::ags) vs
 | _,_,_=>False
def Z09 (G:Ghost) (a:Act) (w:World) (p:Place):Option (List Value×Option (Nat×Nat)):=
 match p.box with
 | true=>match w.heap[G.ad p.root]? with
  | some (.cells c _ _)=>some (c.toList,some (G.ad p.root,0))
  | _=>none
 | false=>some (Z02 (a.tmps.getD p.root undef),none)
noncomputable def State.ct (σ:State) (p:Place):Option Ty:=(σ.content p).map (·.τ)
def Z0B (σ:State) (G:Ghost) (a:Act) (w:World) (p:Place) (cs:List Value) (base:Option (Nat×Nat)):Prop:=
 ∃ τ l b,σ.ct p=some τ/\Z09 G a w p=some (l,b)/\Z00 w τ l b p.path=some (cs,base)
def Z0w (σ:State) (G:Ghost) (a:Act) (w:World) (p:Place) (v:Value):Prop:=
 σ.ct p=none\/∃ cs b,Z0B σ G a w p cs (some b)/\v= .pointer (some ⟨b.1,b.2,none⟩)
def Z2E (w:World) (F:Nat->Nat) (St Al:Nat->Prop) (τ:Ty) (x:El τ) (v:Value):Prop:=
 ∃ b o cs,v= .pointer (some ⟨b,o,none⟩)/\Z05 w b o (size τ)=some cs/\St b/\o+size τ<=F b/\Rp w F St Al τ (List.replicate (Z06 τ) .S) cs x []
def SPs (w:World) (F:Nat->Nat) (St Al:Nat->Prop):List Ty->(τ:Ty)->El τ->List Value->Prop
 | [],_,_,us=>us=[]
 | [e],τ,x,us=>e=τ/\∃ u,us=[u]/\Z2E w F St Al τ x u
 | e::f::g,.pair a b,x,us=>e=a/\∃ u d,us=u::d/\Z2E w F St Al a x.1 u/\SPs w F St Al (f::g) b x.2 d
 | _,_,_,_=>False
theorem Z2E.pres {w w':World} {F F':Nat->Nat} {St Al St' Al':Nat->Prop} (d:∀ b,St b->St' b) (e:∀ b,b<w.heap.size->Al b->Al' b) (i:∀ b,St b->Z07 w F w' F' b) {τ:Ty} {x:El τ} {v:Value} (h:Z2E w F St Al τ x v):Z2E w' F' St' Al' τ x v:=by
 obtain ⟨b,o,cs,k,l,f,g,m⟩:=h
 have j:=i b f
 exact ⟨b,o,cs,k,j.2.1 _ _ _ g l,d b f,Nat.le_trans g j.1,m.pres d e i (by simp) (.inl λt ht=>by rw [(List.mem_replicate.1 ht).2];rfl)⟩
theorem SPs.pres {w w':World} {F F':Nat->Nat} {St Al St' Al':Nat->Prop} (e:∀ b,St b->St' b) (d:∀ b,b<w.heap.size->Al b->Al' b) (k:∀ b,St b->Z07 w F w' F' b) :
  (g:List Ty)->(τ:Ty)->(x:El τ)->(us:List Value)->SPs w F St Al g τ x us->SPs w' F' St' Al' g τ x us
 | [],_,_,_,h=>h
 | [_],_,_,_,h=>⟨h.1,let ⟨u,i,j⟩:=h.2;⟨u,i,j.pres e d k⟩⟩
 | _::l::g,.pair a b,x,_,h=>⟨h.1,let ⟨u,f,i,j,m⟩:=h.2;⟨u,f,i,j.pres e d k,SPs.pres e d k (l::g) b x.2 f m⟩⟩
 | _::_::_,.int _,_,_,h=>h.elim
 | _::_::_,.bool,_,_,h=>h.elim
 | _::_::_,.str,_,_,h=>h.elim
 | _::_::_,.unit,_,_,h=>h.elim
 | _::_::_,.slice _,_,_,h=>h.elim
def Z01 (σ:State) (G:Ghost) (a:Act) (w:World):TV->Value->List Nat->Prop
 | .dead,_,fp=>fp=[]
 | .un,v,fp=>v=undef/\fp=[]
 | .nil,v,fp=>v= .slice none 0 0/\fp=[]
 | .val u,v,fp=>Z0f u.ag v/\Rp w G.F G.St G.Al u.τ u.tg (Z02 v) u.x fp
 | .tup u ags,v,fp=>(∃ vs,v= .tuple vs/\Z1e u.τ ags vs.toList)/\Rp w G.F G.St G.Al u.τ u.tg (Z02 v) u.x fp
 | .ref p ag,v,fp=>fp=[]/\(σ.ct p=none\/∃ cs base,Z0B σ G a w p cs base/\Z02 v=cs/\Z0f ag v)
 | .ptr p,v,fp=>fp=[]/\p.box=true/\Z08 p.path=true/\Z0w σ G a w p v
 | .eptr u t,v,fp=>fp=[]/\t.own=false/\∃ b o cs,v= .pointer (some ⟨b,o,none⟩)/\Z05 w b o (size u.τ)=some cs/\Z5g G.St G.Al t b/\o+size u.τ<=G.F b /\
   (t.isN=false->∀ t'∈u.tg,t'.isN=false)/\Rp w G.F G.St G.Al u.τ u.tg cs u.x []
 | .eref p,v,fp=>fp=[]/\Z0w σ G a w p v
 | .sptr r e p,v,fp=>fp=[]/\Z08 p=true/\∃ b o τ,v= .pointer (some ⟨b,o,none⟩)/\Z0d e p=some τ/\(Z02 (a.tmps.getD r undef)).length=size e /\
   Z05 w b o (size τ)=some (((Z02 (a.tmps.getD r undef)).drop (Z0g e p)).take (size τ))/\G.St b/\o+size τ<=G.F b
 | .tref t ags,v,fp=>fp=[]/\∀ τ,σ.ct ⟨false,t,[]⟩=some τ->Z09 G a w ⟨false,t,[]⟩=some (Z02 v,none)/\∃ vs,v= .tuple vs/\Z1e τ ags vs.toList
 | .clos f d,v,fp=>fp=[]/\∃ vs:Array Value,v= .func (.func f) #[] vs/\vs.size=d.length/\∀ i (h:i<d.length),d[i].box=true/\Z08 d[i].path=true/\Z0w σ G a w d[i] (vs.getD i undef)
 | .sclos f g u,v,fp=>fp=[]/\∃ us:Array Value,v= .func (.func f) #[] us/\SPs w G.F G.St G.Al g u.τ u.x us.toList
structure Ext (M:Nat->Prop) (w w':World):Prop where
 os:w'.os=w.os
 tape:w'.tape=w.tape
 output:w'.output=w.output
 size:w.heap.size<=w'.heap.size
 block:∀ b,b<w.heap.size->¬ M b->w'.heap[b]? = w.heap[b]?
theorem Ext.refl (M:Nat->Prop) (w:World):Ext M w w:=⟨rfl,rfl,rfl,Nat.le_refl _,λ_ _ _=>rfl⟩
structure Base extends World where
 ad0:Nat->Nat
 F0:Nat->Nat
 St0:Nat->Prop
 np:Nat
 arg:Nat->Value
structure Org (W0:Base) (M:Nat->Prop) (G:Ghost):Prop where
 F:∀ b,b<W0.heap.size->¬ M b->G.F b=W0.F0 b
 St:∀ b,W0.St0 b->G.St b
 St':∀ b,G.St b->W0.St0 b\/W0.heap.size<=b\/M b
structure Inv (W0:Base) (M:Nat->Prop) (σ:State) (a:Act) (w:World) (G:Ghost) (xs:List Nat):Prop where
 defers:a.defers=[]
 len:a.tmps.size=σ.slots.length
 slot:∀ i,i<σ.slots.length->Z01 σ G a w (σ.slot i) (a.tmps.getD i undef) (G.fs i)
 box:∀ i v,σ.boxAt i=some v->(∃ c T,w.heap[G.ad i]? = some (.cells c T (0,0))/\Rp w G.F G.St G.Al v.τ v.tg c.toList v.x (G.fb i))/\G.who (G.ad i)=some (.a i)
 whoS:∀ i b,b∈G.fs i->G.who b=some (.s i)
 whoC:∀ i b,b∈G.fb i->G.who b=some (.c i)
 whoX:∀ b,b∈xs->G.who b=some .x
 nodS:∀ i,(G.fs i).Nodup
 nodC:∀ i,(G.fb i).Nodup
 nodX:xs.Nodup
 st:∀ b,G.St b->G.who b=none/\b<w.heap.size
 lt:∀ b z,G.who b=some z->b<w.heap.size/\(W0.heap.size<=b\/M b)
 ext:Ext M W0.toWorld w
 adx:∀ i,σ.slots.length<=i->G.ad i=W0.ad0 i
 org:Org W0 M G
 pin:∀ i,i<W0.np->a.tmps.getD i undef=W0.arg i
theorem Ghost.St_Al {W0:Base} {M:Nat->Prop} {σ:State} {a:Act} {w:World} {G:Ghost} {xs:List Nat} (I:Inv W0 M σ a w G xs):∀ b,G.St b->G.Al b:=
 λb d=>⟨λi h=>(by rw [(I.st b d).1] at h;cases h),λ_=>d⟩
noncomputable def TV.noN:TV->Bool
 | .val u=>u.noN
 | .tup u _=>u.noN
 | .eptr _ t=> !t.isN
 | _=>true
def State.noN (σ:State):Prop:=(∀ i,(σ.slot i).noN=true)/\∀ i v,σ.boxAt i=some v->v.noN=true
theorem TVal.noN_iff {v:TVal}:v.noN=true↔∀ t∈v.tg,t.isN=false:=by
 unfold TVal.noN;rw [List.all_eq_true]
 constructor
 ·intro h t ht;have:=h t ht;cases t<;>simp_all [Tag.isN]
 ·intro h t ht;have:=h t ht;cases t<;>simp_all [Tag.isN]
section
variable {W0:Base} {M:Nat->Prop} {σ:State} {a:Act} {w:World} {G:Ghost} {xs:List Nat}
theorem Z0G {p:Place} {c:TVal} (I:Inv W0 M σ a w G xs) (h:σ.content p=some c) :
  ∃ l b fp,Z09 G a w p=some (l,b)/\Rp w G.F G.St G.Al c.τ c.tg l c.x fp /\
   ((p.box=true/\σ.boxAt p.root=some c/\fp=G.fb p.root/\b=some (G.ad p.root,0)) \/
    (p.box=false/\p.root<σ.slots.length/\fp=G.fs p.root/\b=none/\(σ.slot p.root= .val c\/∃ ags,σ.slot p.root= .tup c ags))):=by
 obtain ⟨box,d,path⟩:=p
 cases box with
 | true=>
  simp only [State.content] at h
  obtain ⟨⟨cs,T,m,n⟩,_⟩:=I.box d c h
  exact ⟨cs.toList,some (G.ad d,0),_,by simp [Z09,m],n,.inl ⟨rfl,h,rfl,rfl⟩⟩
 | false=>
  simp only [State.content] at h
  have e:d<σ.slots.length:=by
   rcases Nat.lt_or_ge d σ.slots.length with j | j
   ·exact j
   ·have:∀ (l:List TV) (i:Nat),l.length<=i->Z0u TV.dead l i= .dead:=by
     intro l
     induction l with
     | nil=>intro i _;rfl
     | cons t l q=>intro i k;cases i with
      | zero=>simp at k
      | succ i=>exact q i (by simpa using k)
    simp [State.slot,this _ _ j] at h
  have g:=I.slot d e
  cases f:σ.slot d with
  | val v=>
   rw [f] at h g
   cases h
   exact ⟨_,none,G.fs d,rfl,g.2,.inr ⟨rfl,e,rfl,rfl,.inl rfl⟩⟩
  | tup v ags=>
   rw [f] at h g
   cases h
   exact ⟨_,none,G.fs d,rfl,g.2,.inr ⟨rfl,e,rfl,rfl,.inr ⟨ags,rfl⟩⟩⟩
  | _=>rw [f] at h;cases h
structure Same (σ:State) (w:World) (G:Ghost) (w':World) (G':Ghost):Prop where
 fs:G'.fs=G.fs
 fb:G'.fb=G.fb
 ad:G'.ad=G.ad
 who:∀ b z,G.who b=some z->z≠ .x->G'.who b=some z
 Al:∀ b,b<w.heap.size->G.Al b->G'.Al b
 St:∀ b,G.St b->G'.St b
 S:∀ b,G.St b->Z07 w G.F w' G'.F b
 own:∀ b z,G.who b=some z->(∀ i,z≠ .a i)->z≠ .x->Z07 w G.F w' G'.F b/\G'.F b=G.F b
 box:∀ i v,σ.boxAt i=some v->w'.heap[G.ad i]? = w.heap[G.ad i]?
 N:σ.noN\/∀ b,b<w.heap.size->G.Al b->Z07 w G.F w' G'.F b
theorem Z0B.world {w':World} {G':Ghost} (I:Inv W0 M σ a w G xs) (S:Same σ w G w' G') {p:Place} {cs:List Value} {base:Option (Nat×Nat)} (h:Z0B σ G a w p cs base) :
  Z0B σ G' a w' p cs base:=by
 obtain ⟨τ,l,b,g,j,v⟩:=h
 obtain ⟨c,u,rfl⟩:=Option.map_eq_some_iff.1 g
 obtain ⟨l',y,fp,i,m,n⟩:=Z0G I u
 rw [j] at i
 cases i
 refine ⟨c.τ,l,b,g,?_,?_⟩
 ·obtain ⟨box,r,path⟩:=p
  rcases n with ⟨f,d,_⟩ | ⟨f,_⟩
  ·simp only at f d;subst f
   simp only [Z09] at j ⊢
   rw [S.ad,S.box _ _ d]
   exact j
  ·simp only at f;subst f
   exact j
 ·refine Z3e S.S m (λx q=> ?_) ?_ v
  ·rcases n with ⟨_,_,rfl,_⟩ | ⟨_,_,rfl,_⟩
   ·exact (S.own x _ (I.whoC _ x q) (by simp) (by simp)).1
   ·exact (S.own x _ (I.whoS _ x q) (by simp) (by simp)).1
  ·refine S.N.imp (λk=> ?_) id
   rcases n with ⟨_,d,_⟩ | ⟨_,_,_,_,e | ⟨ags,e⟩⟩
   ·exact TVal.noN_iff.1 (k.2 _ _ d)
   ·have:=k.1 p.root;rw [e] at this;exact TVal.noN_iff.1 this
   ·have:=k.1 p.root;rw [e] at this;exact TVal.noN_iff.1 this
theorem Z0w.world {w':World} {G':Ghost} (I:Inv W0 M σ a w G xs) (S:Same σ w G w' G') {p:Place} {v:Value} (h:Z0w σ G a w p v):Z0w σ G' a w' p v:=
 h.imp id λ⟨cs,b,d,e⟩=>⟨cs,b,d.world I S,e⟩
theorem Rp.world {w':World} {G':Ghost} (S:Same σ w G w' G') {τ:Ty} {tg:List Tag} {cs:List Value} {x:El τ} {fp:List Nat} (h:Rp w G.F G.St G.Al τ tg cs x fp)
  (k:∀ b∈fp,∃ z,G.who b=some z/\(∀ i,z≠ .a i)/\z≠ .x) (g:σ.noN->∀ t∈tg,t.isN=false):Rp w' G'.F G'.St G'.Al τ tg cs x fp:=
 h.pres S.St S.Al S.S (λb j=>let ⟨z,d,e,f⟩:=k b j;S.own b z d e f) (S.N.imp g id)
theorem Z01.world {w':World} {G':Ghost} (I:Inv W0 M σ a w G xs) (S:Same σ w G w' G') {tv:TV} {v:Value} {fp:List Nat} (h:Z01 σ G a w tv v fp)
  (C:∀ b∈fp,∃ z,G.who b=some z/\(∀ i,z≠ .a i)/\z≠ .x) (A:σ.noN->tv.noN=true):Z01 σ G' a w' tv v fp:=by
 cases tv with
 | dead=>exact h
 | un=>exact h
 | nil=>exact h
 | val u=>exact ⟨h.1,h.2.world S C λj=>TVal.noN_iff.1 (A j)⟩
 | tup u ags=>exact ⟨h.1,h.2.world S C λj=>TVal.noN_iff.1 (A j)⟩
 | ref p ag=>exact ⟨h.1,h.2.imp id λ⟨cs,b,e,d⟩=>⟨cs,b,e.world I S,d⟩⟩
 | ptr p=>exact ⟨h.1,h.2.1,h.2.2.1,h.2.2.2.world I S⟩
 | eref p=>exact ⟨h.1,h.2.world I S⟩
 | tref t ags=>exact h
 | sptr r E p=>
  obtain ⟨e,d,b,o,τ,k,g,l,q,m,y⟩:=h
  have n:=S.S b m
  exact ⟨e,d,b,o,τ,k,g,l,n.2.1 _ _ _ y q,S.St b m,Nat.le_trans y n.1⟩
 | clos f D=>
  obtain ⟨e,vs,d,k,g⟩:=h
  exact ⟨e,vs,d,k,λi B=>⟨(g i B).1,(g i B).2.1,(g i B).2.2.world I S⟩⟩
 | sclos f H u=>
  obtain ⟨e,us,d,k⟩:=h
  exact ⟨e,us,d,SPs.pres S.St S.Al S.S _ _ _ _ k⟩
 | eptr u t=>
  obtain ⟨e,d,b,o,cs,k,g,l,q,m,y⟩:=h
  have n:Z07 w G.F w' G'.F b:=by
   rcases S.N with j | j
   ·have:=A j
    cases t<;>simp_all [TV.noN,Tag.isN,Tag.own,Z5g]
    exact S.S b l
   ·cases t with
    | S=>exact S.S b l
    | N=>exact j b (Z0X g) l
    | _=>cases d
  refine ⟨e,d,b,o,cs,k,n.2.1 _ _ _ q g,?_,Nat.le_trans q n.1,m,y.world S (by simp) λj=>m ?_⟩
  ·cases t with
   | S=>exact S.St b l
   | N=>exact S.Al b (Z0X g) l
   | _=>cases d
  ·have:=A j
   cases t<;>simp_all [TV.noN,Tag.isN]
theorem Inv.world {w':World} {G':Ghost} (I:Inv W0 M σ a w G xs) (S:Same σ w G w' G') (h:∀ b,G'.St b->G'.who b=none/\b<w'.heap.size)
  (f:∀ b z,G'.who b=some z->b<w'.heap.size/\(W0.heap.size<=b\/M b)) (k:Ext M W0.toWorld w') {e:List Nat} (p:∀ b∈e,G'.who b=some .x) (j:e.Nodup) (l:Org W0 M G')
  : Inv W0 M σ a w' G' e where
 defers:=I.defers
 len:=I.len
 slot i hi:=by
  rw [S.fs]
  refine (I.slot i hi).world I S (λb d=>⟨_,I.whoS i b d,by simp,by simp⟩) λg=>g.1 i
 box i v hv:=by
  obtain ⟨⟨c,T,d,m⟩,n⟩:=I.box i v hv
  rw [S.ad,S.fb,S.box i v hv]
  refine ⟨⟨c,T,d,m.world S (λb d=>⟨_,I.whoC i b d,by simp,by simp⟩) λg=>TVal.noN_iff.1 (g.2 i v hv)⟩,?_⟩
  exact S.who _ _ n (by simp)
 whoS i b d:=by rw [S.fs] at d;exact S.who b _ (I.whoS i b d) (by simp)
 whoC i b d:=by rw [S.fb] at d;exact S.who b _ (I.whoC i b d) (by simp)
 whoX:=p
 nodS i:=by rw [S.fs];exact I.nodS i
 nodC i:=by rw [S.fb];exact I.nodC i
 nodX:=j
 st:=h
 lt:=f
 ext:=k
 adx i hi:=by rw [S.ad];exact I.adx i hi
 org:=l
 pin:=I.pin
end
end Go.PI
namespace Go.PI
theorem Z2f {α:Type} {d:α}:∀ (l:List α) (i:Nat),l.length<=i->Z0u d l i=d
 | [],_,_=>rfl
 | a::l,0,h=>by simp at h
 | a::l,i+1,h=>Z2f l i (by simpa using h)
theorem Z0F {α:Type}:∀ (l:List α) (i:Nat) (v:α),(Z0H l i v).length=l.length
 | [],_,_=>rfl
 | _::_,0,_=>rfl
 | _::l,i+1,v=>by simp [Z1i,Z0F l i v]
theorem Z0T {α:Type} {d:α}:∀ (l:List α) (i j:Nat) (v:α),Z0u d (Z0H l i v) j=if i=j/\i<l.length then v else Z0u d l j
 | [],i,j,v=>by simp [Z2v,Z29,Z1i,Z0x,Z0s,Z0p]
 | a::l,0,0,v=>by simp [Z2v,Z29,Z1i,Z0x,Z0s,Z0p]
 | a::l,0,j+1,v=>by simp [Z2v,Z29,Z1i,Z0x,Z0s,Z0p]
 | a::l,i+1,0,v=>by simp [Z2v,Z29,Z1i,Z0x,Z0s,Z0p]
 | a::l,i+1,j+1,v=>by simp [Z1i,Z0p,Z0T l i j v]
theorem Z2s {α:Type} {d:α} (f:α->α) (b:f d=d):∀ (l:List α) (i:Nat),Z0u d (Z52 f l) i=f (Z0u d l i)
 | [],_=>b.symm
 | a::l,0=>rfl
 | a::l,i+1=>Z2s f b l i
theorem Z6u {α:Type}:∀ (l:List α) (i:Nat) (v:α),l.length<=i->Z0H l i v=l
 | [],_,_,_=>rfl
 | _::_,0,_,h=>by simp at h
 | a::l,i+1,v,h=>by simp [Z1i,Z6u l i v (by simpa using h)]
section
variable {W0:Base} {M:Nat->Prop} {σ:State} {a:Act} {w:World} {G:Ghost} {xs:List Nat}
def Z84 (σ σ':State):Prop:=∀ p,σ'.ct p=σ.ct p\/σ'.ct p=none
theorem Z0w.less {σ':State} (j:Z84 σ σ') {p:Place} {v:Value} (h:Z0w σ G a w p v):Z0w σ' G a w p v:=by
 rcases j p with d | d
 ·rcases h with h | ⟨cs,b,⟨τ,l,e,f,g⟩,i⟩
  ·exact .inl (d.trans h)
  ·exact .inr ⟨cs,b,⟨τ,l,e,d.trans f,g⟩,i⟩
 ·exact .inl d
theorem Z01.less {σ':State} (e:Z84 σ σ') {tv:TV} {v:Value} {fp:List Nat} (h:Z01 σ G a w tv v fp):Z01 σ' G a w tv v fp:=by
 cases tv with
 | dead=>exact h
 | un=>exact h
 | nil=>exact h
 | val u=>exact h
 | tup u ags=>exact h
 | eptr u t=>exact h
 | sclos f B u=>exact h
 | sptr r A p=>exact h
 | ptr p=>exact ⟨h.1,h.2.1,h.2.2.1,h.2.2.2.less e⟩
 | eref p=>exact ⟨h.1,h.2.less e⟩
 | tref t ags=>
  refine ⟨h.1,λτ q=> ?_⟩
  rcases e ⟨false,t,[]⟩ with d | d
  ·exact h.2 τ (d.symm.trans q)
  ·rw [d] at q;cases q
 | clos f z=>
  obtain ⟨g,vs,j,k,m⟩:=h
  exact ⟨g,vs,j,k,λi n=>⟨(m i n).1,(m i n).2.1,(m i n).2.2.less e⟩⟩
 | ref p ag=>
  refine ⟨h.1,?_⟩
  rcases e p with d | d
  ·rcases h.2 with h | ⟨cs,b,⟨τ,l,y,g,j⟩,k⟩
   ·exact .inl (d.trans h)
   ·exact .inr ⟨cs,b,⟨τ,l,y,d.trans g,j⟩,k⟩
  ·exact .inl d
theorem Inv.drop (I:Inv W0 M σ a w G xs) {σ':State} (d:σ'.slots.length=σ.slots.length) (m:∀ i,σ'.slot i=σ.slot i\/σ'.slot i= .dead)
  (l:∀ i,σ'.boxAt i=σ.boxAt i\/σ'.boxAt i=none):∃ fs,Inv W0 M σ' a w { G with fs:=fs } xs/\∀ i,σ'.slot i=σ.slot i->fs i=G.fs i:=by
 classical
 have n:Z84 σ σ':=by
  intro p
  obtain ⟨box,e,path⟩:=p
  cases box with
  | true=>
   simp only [State.ct,State.content]
   rcases l e with h | h<;>simp [h]
  | false=>
   simp only [State.ct,State.content]
   rcases m e with h | h<;>simp [h]
 refine ⟨λi=>if σ'.slot i=σ.slot i then G.fs i else [],⟨I.defers,by rw [d];exact I.len,λi f=> ?_,λi v k=> ?_,λi b g=> ?_,I.whoC,I.whoX,λi=> ?_,I.nodC,I.nodX,I.st,I.lt,I.ext,λi f=>I.adx i (by rw [<-d];exact f),⟨I.org.F,I.org.St,I.org.St'⟩,I.pin⟩,λi f=>by simp [f]⟩
 ·simp only []
  by_cases j:σ'.slot i=σ.slot i
  ·simp only [j,if_true]
   exact (I.slot i (by rw [<-d];exact f)).less n
  ·simp only [j,if_false]
   rw [(m i).resolve_left j]
   rfl
 ·rcases l i with h | h
  ·exact I.box i v (h ▸ k)
  ·rw [h] at k;cases k
 ·simp only [] at g
  split at g
  ·exact I.whoS i b g
  ·simp at g
 ·simp only []
  split
  ·exact I.nodS i
  ·simp
theorem Z0i (σ:State) (box:Bool) (b i:Nat):(σ.loosen box b).slot i=TV.loosen box b (σ.slot i):=Z2s _ rfl _ _
theorem Z5i (σ:State) (b i:Nat):(σ.unpoint b).slot i=TV.unpoint b (σ.slot i):=Z2s _ rfl _ _
theorem Z1x (σ:State) (i:Nat):σ.kill.slot i=TV.kill (σ.slot i):=Z2s _ rfl _ _
theorem Z2T (σ:State) (i:Nat):σ.kill.boxAt i=Z2S (σ.boxAt i):=Z2s _ rfl _ _
theorem TV.loosen_or (box:Bool) (b:Nat) (tv:TV):TV.loosen box b tv=tv\/TV.loosen box b tv= .dead:=by
 cases tv<;>first | exact .inl rfl | (simp only [TV.loosen];split<;>simp)
theorem TV.unpoint_or (b:Nat) (tv:TV):TV.unpoint b tv=tv\/TV.unpoint b tv= .dead:=by
 cases tv<;>first | exact .inl rfl | (simp only [TV.unpoint];split<;>simp)
theorem TV.kill_or (tv:TV):TV.kill tv=tv\/TV.kill tv= .dead:=by
 cases tv<;>first | exact .inl rfl | (simp only [TV.kill];split<;>simp)
theorem Inv.loosen (I:Inv W0 M σ a w G xs) (box:Bool) (b:Nat):∃ fs,Inv W0 M (σ.loosen box b) a w { G with fs:=fs } xs/\∀ i,(σ.loosen box b).slot i=σ.slot i->fs i=G.fs i:=
 I.drop (by simp [State.loosen,Z0b]) (λi=>by rw [Z0i];exact TV.loosen_or _ _ _) (λi=> .inl rfl)
theorem Inv.unpoint (I:Inv W0 M σ a w G xs) (b:Nat):∃ fs,Inv W0 M (σ.unpoint b) a w { G with fs:=fs } xs/\∀ i,(σ.unpoint b).slot i=σ.slot i->fs i=G.fs i:=
 I.drop (by simp [State.unpoint,Z0b]) (λi=>by rw [Z5i];exact TV.unpoint_or _ _) (λi=> .inl rfl)
theorem Inv.kill (I:Inv W0 M σ a w G xs):∃ fs,Inv W0 M σ.kill a w { G with fs:=fs } xs/\∀ i,σ.kill.slot i=σ.slot i->fs i=G.fs i:=
 I.drop (by simp [State.kill,Z0b]) (λi=>by rw [Z1x];exact TV.kill_or _) (λi=>by rw [Z2T];cases σ.boxAt i with | none=>exact .inl rfl | some v=>simp only [Z2S];split<;>simp)
theorem Z2t (σ:State):σ.kill.noN:=by
 constructor
 ·intro i
  rw [Z1x]
  cases σ.slot i with
  | val v=>simp only [TV.kill];split<;>simp_all [TV.noN]
  | tup v ags=>simp only [TV.kill];split<;>simp_all [TV.noN]
  | eptr v t=>simp only [TV.kill];split<;>simp_all [TV.noN]
  | _=>rfl
 ·intro i v b
  rw [Z2T] at b
  cases d:σ.boxAt i with
  | none=>rw [d] at b;cases b
  | some u=>
   rw [d] at b
   simp only [Z2S] at b
   split at b
   ·cases b;assumption
   ·cases b
theorem Z01.ghost {G':Ghost} (k:G'.F=G.F) (m:G'.St=G.St) (y:∀ i,G'.ad i=G.ad i) (n:G'.Al=G.Al) {tv:TV} {v:Value} {fp:List Nat} (h:Z01 σ G a w tv v fp):Z01 σ G' a w tv v fp:=by
 have B:∀ p,Z09 G' a w p=Z09 G a w p:=λp=>by unfold Z09;rw [y]
 have A:∀ p v,Z0w σ G a w p v->Z0w σ G' a w p v:=λp v h=>h.imp id λ⟨cs,b,⟨τ,l,q,e,g,j⟩,d⟩=>⟨cs,b,⟨τ,l,q,e,by rw [B];exact g,j⟩,d⟩
 cases tv with
 | dead=>exact h
 | un=>exact h
 | nil=>exact h
 | val u=>simp only [Z01] at h ⊢;rw [k,m,n];exact h
 | tup u ags=>simp only [Z01] at h ⊢;rw [k,m,n];exact h
 | eptr u t=>simp only [Z01] at h ⊢;rw [k,m,n];exact h
 | sclos f H u=>simp only [Z01] at h ⊢;rw [k,m,n];exact h
 | sptr r E p=>simp only [Z01] at h ⊢;rw [k,m];exact h
 | ptr p=>exact ⟨h.1,h.2.1,h.2.2.1,A _ _ h.2.2.2⟩
 | eref p=>exact ⟨h.1,A _ _ h.2⟩
 | tref t ags=>exact ⟨h.1,λτ C=>⟨by rw [B];exact (h.2 τ C).1,(h.2 τ C).2⟩⟩
 | clos f D=>
  obtain ⟨e,vs,g,j,d⟩:=h
  exact ⟨e,vs,g,j,λi z=>⟨(d i z).1,(d i z).2.1,A _ _ (d i z).2.2⟩⟩
 | ref p ag=>exact ⟨h.1,h.2.imp id λ⟨cs,b,⟨τ,l,q,e,g,j⟩,d⟩=>⟨cs,b,⟨τ,l,q,e,by rw [B];exact g,j⟩,d⟩⟩
end
structure Sim (G G':Ghost):Prop where
 F:G'.F=G.F
 St:G'.St=G.St
 ad:G'.ad=G.ad
 Al:G'.Al=G.Al
 bx:∀ b i,G'.who b=some (.a i)↔G.who b=some (.a i)
theorem Sim.refl (G:Ghost):Sim G G:=⟨rfl,rfl,rfl,rfl,λ_ _=>Iff.rfl⟩
theorem Sim.trans {d e f:Ghost} (h:Sim d e) (k:Sim e f):Sim d f:=
 ⟨k.F.trans h.F,k.St.trans h.St,k.ad.trans h.ad,k.Al.trans h.Al,λb i=>(k.bx b i).trans (h.bx b i)⟩
theorem Sim.fs (G:Ghost) (fs:Nat->List Nat):Sim G { G with fs:=fs }:=⟨rfl,rfl,rfl,rfl,λ_ _=>Iff.rfl⟩
end Go.PI
namespace Go.PI
def TV.places:TV->List Place
 | .ref p _=>[p]
 | .ptr p=>[p]
 | .eref p=>[p]
 | .tref t _=>[⟨false,t,[]⟩]
 | .clos _ b=>b
 | _=>[]
section
variable {W0:Base} {M:Nat->Prop} {σ:State} {a:Act} {w:World} {G:Ghost} {xs:List Nat}
theorem Z01.move {σ':State} {z:Act} {G':Ghost} {tv:TV} {v:Value} {fp:List Nat}
  (H:∀ p∈tv.places,σ'.ct p=none\/(σ'.ct p=σ.ct p/\Z09 G' z w p=Z09 G a w p))
  (n:G'.F=G.F) (q:G'.St=G.St) (A:G'.Al=G.Al) (h:Z01 σ G a w tv v fp) (y:∀ r τ p,tv= .sptr r τ p->z.tmps.getD r undef=a.tmps.getD r undef:=by intros;rfl):Z01 σ' G' z w tv v fp:=by
 have j:∀ p∈tv.places,∀ v,Z0w σ G a w p v->Z0w σ' G' z w p v:=by
  intro p J v h
  rcases H p J with k | ⟨d,e⟩
  ·exact .inl k
  ·rcases h with h | ⟨cs,b,⟨τ,l,B,m,g,C⟩,D⟩
   ·exact .inl (d.trans h)
   ·exact .inr ⟨cs,b,⟨τ,l,B,d.trans m,e.trans g,C⟩,D⟩
 cases tv with
 | dead=>exact h
 | un=>exact h
 | nil=>exact h
 | val u=>simp only [Z01] at h ⊢;rw [n,q,A];exact h
 | tup u ags=>simp only [Z01] at h ⊢;rw [n,q,A];exact h
 | eptr u t=>simp only [Z01] at h ⊢;rw [n,q,A];exact h
 | sclos f P u=>simp only [Z01] at h ⊢;rw [n,q,A];exact h
 | sptr r K p=>simp only [Z01] at h ⊢;rw [n,q,y r K p rfl];exact h
 | ptr p=>exact ⟨h.1,h.2.1,h.2.2.1,j p (by simp [TV.places]) _ h.2.2.2⟩
 | eref p=>exact ⟨h.1,j p (by simp [TV.places]) _ h.2⟩
 | tref t ags=>
  refine ⟨h.1,λτ I=> ?_⟩
  rcases H ⟨false,t,[]⟩ (by simp [TV.places]) with k | ⟨d,e⟩
  ·rw [k] at I;cases I
  ·rw [e];exact h.2 τ (d.symm.trans I)
 | clos f L=>
  obtain ⟨d,vs,e,m,g⟩:=h
  exact ⟨d,vs,e,m,λi E=>⟨(g i E).1,(g i E).2.1,j _ (by simp [TV.places]) _ (g i E).2.2⟩⟩
 | ref p ag=>
  refine ⟨h.1,?_⟩
  rcases H p (by simp [TV.places]) with k | ⟨d,e⟩
  ·exact .inl k
  ·rcases h.2 with h | ⟨cs,b,⟨τ,l,B,m,g,C⟩,D⟩
   ·exact .inl (d.trans h)
   ·exact .inr ⟨cs,b,⟨τ,l,B,d.trans m,e.trans g,C⟩,D⟩
theorem Inv.sub (I:Inv W0 M σ a w G xs) {ys:List Nat} (h:∀ b∈ys,b∈xs) (e:ys.Nodup):Inv W0 M σ a w G ys:=
 { I with whoX:=λb d=>I.whoX b (h b d),nodX:=e }
theorem Z1l (σ:State) (r:Nat) (path:List Step):σ.ct ⟨false,r,path⟩=match σ.slot r with | .val v=>some v.τ | .tup v _=>some v.τ | _=>none:=by
 unfold State.ct State.content
 simp only []
 cases σ.slot r<;>rfl
theorem Z1p (σ:State) (r:Nat) (path:List Step):σ.ct ⟨true,r,path⟩=(σ.boxAt r).map (·.τ):=rfl
theorem Z8I (σ:State) (b:Bool) (r:Nat) (p:Place):(σ.loosen b r).ct p=σ.ct p:=by
 obtain ⟨d,e,path⟩:=p
 cases d with
 | true=>rfl
 | false=>
  rw [Z1l,Z1l,Z0i]
  cases σ.slot e with
  | ref q ag=>rcases TV.loosen_or b r (.ref q ag) with h | h<;>rw [h]
  | eref q=>rcases TV.loosen_or b r (.eref q) with h | h<;>rw [h]
  | tref t ags=>rcases TV.loosen_or b r (.tref t ags) with h | h<;>rw [h]
  | _=>rfl
theorem Inv.put {fp:List Nat} (I:Inv W0 M σ a w G (fp++xs)) {i:Nat} {tv:TV} {v:Value} (h:Z01 σ G a w tv v fp) (W:i<W0.np->v=W0.arg i) (P:((∀ τ p,tv≠ .sptr i τ p)/\∀ j τ p,σ.slot j≠ .sptr i τ p)\/v=a.tmps.getD i undef) :
  ∃ G',Inv W0 M (σ.put i tv) (a.put (some i) v) w G' xs/\Sim G G':=by
 classical
 obtain ⟨n,X,hfs⟩:=I.loosen false i
 have B:∀ j,(σ.put i tv).slot j=if i=j/\i<σ.slots.length then tv else (σ.loosen false i).slot j:=by
  intro j
  unfold State.put State.slot
  simp only []
  rw [Z0T]
  simp [State.loosen,Z0b]
 have hbox:∀ j,(σ.put i tv).boxAt j=σ.boxAt j:=λj=>rfl
 by_cases hi:i<σ.slots.length
 case neg=>
  refine ⟨{ G with fs:=n },?_,Sim.fs _ _⟩
  have e1:σ.put i tv=σ.loosen false i:=by
   unfold State.put
   rw [Z6u _ _ _ (by simp [State.loosen,Z0b];omega)]
   rfl
  have e2:a.put (some i) v=a:=by
   have:a.tmps.size<=i:=by rw [I.len];omega
   simp only [Act.put]
   rw [Array.setIfInBounds_eq_of_size_le this]
  rw [e1,e2]
  exact X.sub (λb g=>List.mem_append_right _ g) (List.nodup_append.1 I.nodX).2.1
 case pos=>
 have H:∀ j,(a.put (some i) v).tmps.getD j undef=if i=j then v else a.tmps.getD j undef:=by
  intro j
  simp only [Act.put]
  by_cases K:i=j
  ·subst K
   simp only [if_true]
   rw [Array.getD_eq_getD_getElem?,Array.getElem?_setIfInBounds_self_of_lt (by rw [I.len];exact hi)];rfl
  ·simp only [K,if_false]
   rw [Array.getD_eq_getD_getElem?,Array.getElem?_setIfInBounds_ne K,<-Array.getD_eq_getD_getElem?]
 let G':Ghost:={ G with who:=λb=>if b∈fp then some (.s i) else G.who b,fs:=λj=>if j=i then fp else n j }
 have d:∀ b k,G'.who b=some (.a k)↔G.who b=some (.a k):=by
  intro b k
  show (if b∈fp then some (Who.s i) else G.who b)=some (.a k)↔_
  by_cases g:b∈fp
  ·have:=I.whoX b (List.mem_append_left _ g)
   rw [this];simp [g]
  ·simp [g]
 have Z:G'.Al=G.Al:=by
  funext b
  apply propext
  show ((∀ k,(if b∈fp then some (Who.s i) else G.who b)≠some (.a k))/\((if b∈fp then some (Who.s i) else G.who b)=none->G.St b))↔_
  by_cases g:b∈fp
  ·simp only [g,if_true]
   have:=I.whoX b (List.mem_append_left _ g)
   constructor
   ·intro _;exact ⟨λk=>(by rw [this];simp),λh=>(by rw [this] at h;cases h)⟩
   ·intro _;exact ⟨λk=>(by simp),λh=>(by cases h)⟩
  ·simp only [g,if_false];rfl
 have C:∀ p:Place,p.box=true->(σ.put i tv).ct p=σ.ct p/\Z09 G' (a.put (some i) v) w p=Z09 G a w p:=by
  rintro ⟨Y,r,path⟩ d
  simp only at d
  subst d
  exact ⟨rfl,rfl⟩
 have L:∀ p:Place,p.box=false->p.root≠i->(σ.put i tv).ct p=(σ.loosen false i).ct p/\Z09 G' (a.put (some i) v) w p=Z09 { G with fs:=n } a w p:=by
  rintro ⟨Y,r,path⟩ d y
  simp only at d y
  subst d
  refine ⟨?_,?_⟩
  ·rw [Z1l,Z1l,B]
   simp [Ne.symm y]
  ·simp only [Z09]
   rw [H]
   simp [Ne.symm y]
 refine ⟨G',⟨I.defers,?_,λj K=> ?_,λj u hu=> ?_,λj b g=> ?_,λj b g=> ?_,λb g=> ?_,λj=> ?_,I.nodC,(List.nodup_append.1 I.nodX).2.1,λb g=> ?_,λb z g=> ?_,I.ext,λj K=>I.adx j (by simpa [State.put,Z0F,State.loosen,Z0b] using K),⟨I.org.F,I.org.St,I.org.St'⟩,λj K=> ?_⟩,rfl,rfl,rfl,Z,d⟩
 ·simp only [Act.put,Array.size_setIfInBounds,State.put,Z0F,State.loosen,Z0b,List.length_map];exact I.len
 ·have hj':j<σ.slots.length:=by simpa [State.put,Z0F,State.loosen,Z0b] using K
  rw [B,H]
  by_cases D:i=j
  ·subst D
   simp only [hi,and_self,if_true]
   show Z01 _ G' _ _ _ _ (if i=i then fp else n i)
   simp only [if_true]
   refine Z01.move (G:=G) (a:=a) (σ:=σ) (λp e=> ?_) rfl rfl Z h (λr τ p R=>by
    rw [H]
    by_cases E:i=r
    ·subst E
     rcases P with m | m
     ·exact absurd R (m.1 τ p)
     ·rw [if_pos rfl];exact m
    ·rw [if_neg E])
   cases d:p.box with
   | true=>exact .inr (C p d)
   | false=>
    by_cases y:p.root=i
    ·left
     obtain ⟨Y,r,path⟩:=p
     simp only at d y
     subst d y
     rw [Z1l,B]
     simp only [hi,and_self,if_true]
     cases tv<;>first | rfl | (simp [TV.places] at e)
    ·have:=L p d y
     obtain ⟨Y,r,path⟩:=p
     simp only at d y
     subst d
     have hle:=Z8I σ false i ⟨false,r,path⟩
     exact .inr ⟨this.1.trans hle,this.2⟩
  ·simp only [D,false_and,if_false]
   have hne:j≠i:=λh=>D h.symm
   have U:=X.slot j (by simpa [State.loosen,Z0b] using hj')
   show Z01 _ G' _ _ _ _ (if j=i then fp else n j)
   simp only [hne,if_false]
   refine Z01.move (G:={ G with fs:=n }) (λp e=> ?_) rfl rfl Z U (λr τ p R=>by
    rw [H]
    by_cases E:i=r
    ·subst E
     rcases P with m | m
     ·have A:=Z0i σ false i j
      rw [R] at A
      cases l:σ.slot j with
      | sptr r2 τ2 p2=>
       rw [l] at A
       simp only [TV.loosen,TV.sptr.injEq] at A
       obtain ⟨rfl,rfl,rfl⟩:=A
       exact absurd l (m.2 j τ p)
      | ref q ag=>rw [l] at A;rcases TV.loosen_or false i (.ref q ag) with J | J<;>rw [J] at A<;>cases A
      | eref q=>rw [l] at A;rcases TV.loosen_or false i (.eref q) with J | J<;>rw [J] at A<;>cases A
      | tref t ags=>rw [l] at A;rcases TV.loosen_or false i (.tref t ags) with J | J<;>rw [J] at A<;>cases A
      | _=>rw [l] at A;simp [TV.loosen] at A
     ·rw [if_pos rfl];exact m
    ·rw [if_neg E])
   cases d:p.box with
   | true=>exact .inr ⟨(C p d).1.trans (by obtain ⟨Y,r,path⟩:=p;simp only at d;subst d;rfl),(C p d).2⟩
   | false=>
    have y:p.root≠i:=by
     intro y
     rw [Z0i] at e U
     cases l:σ.slot j with
     | ref q ag=>
      rw [l] at e
      simp only [TV.loosen] at e
      split at e
      ·simp [TV.places] at e
      ·rename_i Q
       simp only [TV.places,List.mem_singleton] at e
       subst e
       exact Q (by simp [d,y])
     | tref t' ags=>
      rw [l] at e
      simp only [TV.loosen] at e
      split at e
      ·simp [TV.places] at e
      ·rename_i Q
       simp only [TV.places,List.mem_singleton] at e
       subst e
       exact Q (by simp at y;simp [y])
     | eref q=>
      rw [l] at e
      simp only [TV.loosen] at e
      split at e
      ·simp [TV.places] at e
      ·rename_i Q
       simp only [TV.places,List.mem_singleton] at e
       subst e
       exact Q (by simp [d,y])
     | ptr q=>
      rw [l] at e U
      simp only [TV.loosen,TV.places,List.mem_singleton] at e
      subst e
      have:=U.2.1
      rw [d] at this
      cases this
     | clos f ps=>
      rw [l] at e U
      simp only [TV.loosen,TV.places] at e
      obtain ⟨_,vs,_,_,J⟩:=U
      obtain ⟨k,hk,rfl⟩:=List.mem_iff_getElem.1 e
      have:=(J k hk).1
      rw [d] at this
      cases this
     | _=>rw [l] at e;simp [TV.loosen,TV.places] at e
    exact .inr (L p d y)
 ·obtain ⟨⟨c,T,Q,y⟩,hw⟩:=I.box j u hu
  refine ⟨⟨c,T,Q,?_⟩,?_⟩
  ·rw [Z];exact y
  ·show (if G.ad j∈fp then some (Who.s i) else G.who (G.ad j))=_
   split
   ·rename_i m
    have:=I.whoX _ (List.mem_append_left _ m)
    rw [this] at hw
    cases hw
   ·exact hw
 ·show (if b∈fp then some (Who.s i) else G.who b)=_
  change b∈(if j=i then fp else n j) at g
  by_cases V:j=i
  ·subst V
   simp only [if_true] at g
   simp [g]
  ·simp only [V,if_false] at g
   have:=X.whoS j b g
   split
   ·rename_i m
    have h2:=I.whoX b (List.mem_append_left _ m)
    change G.who b=_ at this
    rw [h2] at this
    cases this
   ·exact this
 ·show (if b∈fp then some (Who.s i) else G.who b)=_
  have:=I.whoC j b g
  split
  ·rename_i m
   have h2:=I.whoX b (List.mem_append_left _ m)
   rw [h2] at this
   cases this
  ·exact this
 ·show (if b∈fp then some (Who.s i) else G.who b)=_
  split
  ·rename_i m
   exact absurd rfl ((List.nodup_append.1 I.nodX).2.2 b m b g)
  ·exact I.whoX b (List.mem_append_right _ g)
 ·show (if j=i then fp else n j).Nodup
  split
  ·exact (List.nodup_append.1 I.nodX).1
  ·exact X.nodS j
 ·refine ⟨?_,(I.st b g).2⟩
  show (if b∈fp then some (Who.s i) else G.who b)=_
  split
  ·rename_i m
   have:=I.whoX b (List.mem_append_left _ m)
   rw [(I.st b g).1] at this
   cases this
  ·exact (I.st b g).1
 ·change (if b∈fp then some (Who.s i) else G.who b)=some z at g
  split at g
  ·rename_i m
   exact I.lt b _ (I.whoX b (List.mem_append_left _ m))
  ·exact I.lt b z g
 ·rw [H]
  split
  ·rename_i D
   subst D
   exact W K
  ·exact I.pin j K
theorem Z3A (σ:State) (i j:Nat):(σ.unmir i).slot j=TV.unmir i (σ.slot j):=Z2s _ rfl _ _
theorem Z7F (i:Nat) (tv:TV):TV.unmir i tv=tv\/TV.unmir i tv= .dead:=by
 cases tv<;>first | exact .inl rfl | skip
 simp only [TV.unmir]
 split
 ·exact .inr rfl
 ·exact .inl rfl
theorem Z7E (i:Nat) (tv:TV) (τ:Ty) (p:List Step):TV.unmir i tv≠ .sptr i τ p:=by
 cases tv<;>simp only [TV.unmir]<;>first | (intro h;cases h;done) | skip
 rename_i r e d
 split
 ·intro h;cases h
 ·rename_i b
  intro h
  cases h
  simp at b
theorem Z01.unmired {i:Nat} {tv:TV} {v:Value} {fp:List Nat} (h:Z01 σ G a w tv v fp):Z01 (σ.unmir i) G a w tv v fp:=by
 refine Z01.move (λp _=> .inr ⟨?_,rfl⟩) rfl rfl rfl h
 obtain ⟨d,r,path⟩:=p
 cases d with
 | true=>rfl
 | false=>
  rw [Z1l,Z1l,Z3A]
  cases j:σ.slot r with
  | sptr f g e=>rcases Z7F i (.sptr f g e) with b | b<;>rw [b]
  | _=>rfl
theorem Inv.puto {fp:List Nat} (I:Inv W0 M σ a w G (fp++xs)) {d:Option Nat} {tv:TV} {v:Value} (h:Z01 σ G a w tv v fp) (f:∀ i,d=some i->i<W0.np->v=W0.arg i) :
  ∃ G',Inv W0 M (σ.puto d tv) (a.put d v) w G' xs/\Sim G G':=by
 cases d with
 | none=>exact ⟨G,I.sub (λb r=>List.mem_append_right _ r) (List.nodup_append.1 I.nodX).2.1,Sim.refl _⟩
 | some i=>
  obtain ⟨e,m,u⟩:=I.drop (σ':=σ.unmir i) (by simp [State.unmir,Z0b]) (λj=>by rw [Z3A];exact Z7F _ _) (λj=> .inl rfl)
  have q:Z01 (σ.unmir i) { G with fs:=e } a w (TV.unmir i tv) v fp:=by
   have g:Z01 (σ.unmir i) { G with fs:=e } a w tv v fp:=Z01.move (λp _=> .inr ⟨rfl,rfl⟩) rfl rfl rfl h.unmired
   cases tv<;>first | exact g | skip
   simp only [TV.unmir]
   split
   ·exact g.1
   ·exact g
  obtain ⟨l,n,k⟩:=m.put (i:=i) (tv:=TV.unmir i tv) (v:=v) q (f _ rfl) (.inl ⟨λτ p=>Z7E _ _ _ _,λj τ p=>by rw [Z3A];exact Z7E _ _ _ _⟩)
  exact ⟨l,n,(Sim.fs G e).trans k⟩
end
section
variable {w:World} {F:Nat->Nat} {St Al:Nat->Prop}
theorem Rp.flatLens:{path:List Step}->{τ:Ty}->{tg:List Tag}->{cs f:List Value}->{x:El τ}->{fp:List Nat}->{base d:Option (Nat×Nat)}->{u:TVal} ->
  Z08 path=true->Rp w F St Al τ tg cs x fp->Z00 w τ cs base path=some (f,d)->Z04 τ x tg path=some u ->
  ∃ E fi H,fp=E++fi++H/\Rp w F St Al u.τ u.tg (f.take (size u.τ)) u.x fi/\d=base.map (λy=>(y.1,y.2+Z0g τ path))/\f.take (size u.τ)=(cs.drop (Z0g τ path)).take (size u.τ) /\
   ∀ (v:TVal) (i:List Value) (fv:List Nat) (D:El τ) (k:List Tag),Z0J τ x tg path v=some (D,k)->v.τ=u.τ->Rp w F St Al v.τ v.tg i v.x fv ->
    Rp w F St Al τ k (Z0c cs (Z0g τ path) i) D (E++fv++H)
 | [],τ,tg,cs,f,x,fp,base,d,u,r,h,e,m=>by
  simp only [Z00,Option.some.injEq,Prod.mk.injEq] at e
  obtain ⟨rfl,rfl⟩:=e
  have hu:u=⟨τ,false,x,tg⟩:=by cases τ<;>(simp only [Z04,Option.some.injEq] at m;exact m.symm)
  subst hu
  have W:Z0g τ []=0:=by cases τ<;>rfl
  have J:cs.take (size τ)=cs:=by rw [<-h.len.1];simp
  refine ⟨[],fp,[],by simp,by rw [J];exact h,?_,by rw [W];simp,?_⟩
  ·rw [W];cases base<;>simp
  ·intro v i fv D k j C g
   obtain ⟨vτ,vag,vx,aa⟩:=v
   simp only at C g
   subst C
   have Y:vx=D/\aa=k:=by
    cases vτ<;>(simp only [Z0J,dif_pos,Option.some.injEq,Prod.mk.injEq] at j;first | exact j | exact ⟨rfl,j.2⟩)
   obtain ⟨rfl,rfl⟩:=Y
   rw [W,Z2Y (by rw [g.len.1,h.len.1])]
   simpa using g
 | .fst::p,.pair a b,tg,cs,f,x,fp,base,d,u,r,h,e,m=>by
  obtain ⟨t1,t2,c1,c2,E,H,rfl,rfl,rfl,I,X⟩:=h
  have n:=I.len
  have A:Z00 w a c1 base p=some (f,d):=by
   simp only [Z00] at e;rw [<-n.1] at e;simpa using e
  have q:Z04 a x.1 t1 p=some u:=by
   simp only [Z04] at m;rw [<-n.2] at m;simpa using m
  have J:=Z1v (path:=p) r q
  obtain ⟨T,V,U,K,L,P,Q,R⟩:=Rp.flatLens (path:=p) r I A q
  refine ⟨T,V,U++H,by rw [K];simp,L,P,?_,?_⟩
  ·rw [Q,show Z0g (a.pair b) (.fst::p)=Z0g a p from rfl]
   rw [List.drop_append_of_le_length (by omega),List.take_append_of_le_length (by simp;omega)]
  ·intro v i fv D k j C g
   simp only [Z0J] at j
   rw [<-n.2] at j
   simp only [List.take_left',List.drop_left',Option.map_eq_some_iff] at j
   obtain ⟨⟨xa,Z⟩,B,l⟩:=j
   simp only [Prod.mk.injEq] at l
   obtain ⟨rfl,rfl⟩:=l
   have:=R v i fv xa Z B C g
   rw [show Z0g (a.pair b) (.fst::p)=Z0g a p from rfl,Z3h (by rw [g.len.1,C,n.1];omega)]
   have:=Rp.pair_mk this X
   simpa using this
 | .snd::p,.pair a b,tg,cs,f,x,fp,base,d,u,r,h,e,m=>by
  obtain ⟨t1,t2,c1,c2,E,H,rfl,rfl,rfl,I,X⟩:=h
  have n:=I.len
  have A:Z00 w b c2 (base.map λx=>(x.1,x.2+size a)) p=some (f,d):=by
   simp only [Z00] at e;rw [<-n.1] at e ⊢;simpa using e
  have q:Z04 b x.2 t2 p=some u:=by
   simp only [Z04] at m;rw [<-n.2] at m;simpa using m
  obtain ⟨T,V,U,K,L,P,Q,R⟩:=Rp.flatLens (path:=p) r X A q
  refine ⟨E++T,V,U,by rw [K];simp,L,?_,?_,?_⟩
  ·rw [P]
   cases base with
   | none=>rfl
   | some z=>simp [Z0g,Nat.add_assoc]
  ·rw [Q,show Z0g (a.pair b) (.snd::p)=size a+Z0g b p from rfl,<-n.1,List.drop_length_add_append]
  ·intro v i fv D k j C g
   simp only [Z0J] at j
   rw [<-n.2] at j
   simp only [List.take_left',List.drop_left',Option.map_eq_some_iff] at j
   obtain ⟨⟨xa,Z⟩,B,l⟩:=j
   simp only [Prod.mk.injEq] at l
   obtain ⟨rfl,rfl⟩:=l
   have:=R v i fv xa Z B C g
   rw [show Z0g (a.pair b) (.snd::p)=size a+Z0g b p from rfl,<-n.1,Z2N]
   have:=Rp.pair_mk I this
   simpa using this
 | .idx _::_,_,_,_,_,_,_,_,_,_,r,_,_,_=>by simp [Z08] at r
 | .fst::_,.int _,_,_,_,_,_,_,_,_,_,_,e,_=>by simp [Z00] at e
 | .fst::_,.bool,_,_,_,_,_,_,_,_,_,_,e,_=>by simp [Z00] at e
 | .fst::_,.str,_,_,_,_,_,_,_,_,_,_,e,_=>by simp [Z00] at e
 | .fst::_,.unit,_,_,_,_,_,_,_,_,_,_,e,_=>by simp [Z00] at e
 | .fst::_,.slice _,_,_,_,_,_,_,_,_,_,_,e,_=>by simp [Z00] at e
 | .snd::_,.int _,_,_,_,_,_,_,_,_,_,_,e,_=>by simp [Z00] at e
 | .snd::_,.bool,_,_,_,_,_,_,_,_,_,_,e,_=>by simp [Z00] at e
 | .snd::_,.str,_,_,_,_,_,_,_,_,_,_,e,_=>by simp [Z00] at e
 | .snd::_,.unit,_,_,_,_,_,_,_,_,_,_,e,_=>by simp [Z00] at e
 | .snd::_,.slice _,_,_,_,_,_,_,_,_,_,_,e,_=>by simp [Z00] at e
end
end Go.PI
namespace Go.PI
section
variable {W0:Base} {M:Nat->Prop} {σ:State} {a:Act} {w:World} {G:Ghost} {xs:List Nat}
def Ghost.fpOf (G:Ghost) (p:Place):List Nat:=match p.box with | true=>G.fb p.root | false=>G.fs p.root
theorem Z0P (w:World) (τ:Ty) (cs:List Value) (base:Option (Nat×Nat)):Z00 w τ cs base []=some (cs,base):=by cases τ<;>rfl
theorem Z38 {cs:List Value} {o n:Nat} (h:o+n<=cs.length):Z0c cs o ((cs.drop o).take n)=cs:=by
 unfold Z0c
 have:((cs.drop o).take n).length=n:=by simp;omega
 rw [this,List.append_assoc,<-List.drop_drop,List.take_append_drop,List.take_append_drop]
theorem Z0N {r:Nat} {path:List Step} {c c':TVal} (d:σ.content ⟨false,r,path⟩=some c) (j:Nat) :
  (σ.setContent ⟨false,r,path⟩ c').slot j=if r=j/\r<σ.slots.length then (match σ.slot r with | .tup _ ags=> .tup c' ags | _=> .val c') else σ.slot j:=by
 simp only [State.content] at d
 cases b:σ.slot r with
 | val v=>
  have:σ.setContent ⟨false,r,path⟩ c'={ σ with slots:=Z0H σ.slots r (.val c') }:=by simp only [State.setContent,b]
  rw [this]
  show Z0u TV.dead (Z0H σ.slots r (.val c')) j=_
  rw [Z0T];rfl
 | tup v ags=>
  have:σ.setContent ⟨false,r,path⟩ c'={ σ with slots:=Z0H σ.slots r (.tup c' ags) }:=by simp only [State.setContent,b]
  rw [this]
  show Z0u TV.dead (Z0H σ.slots r (.tup c' ags)) j=_
  rw [Z0T];rfl
 | _=>rw [b] at d;cases d
theorem Z2i (p:Place) (c':TVal):(σ.setContent p c').slots.length=σ.slots.length:=by
 obtain ⟨b,r,path⟩:=p
 cases b with
 | true=>rfl
 | false=>simp only [State.setContent];split<;>simp [Z0F]
theorem Inv.recontent (I:Inv W0 M σ a w G xs) {p:Place} {c c':TVal} (g:σ.content p=some c) (Z:c'.τ=c.τ) (hag:c'.ag=c.ag) {l:List Value} {b:Option (Nat×Nat)} {f' fi:List Nat}
  (X:Z09 G a w p=some (l,b)) (hR:Rp w G.F G.St G.Al c'.τ c'.tg l c'.x f') (H:(G.fpOf p).Perm (f'++fi)) :
  ∃ G',Inv W0 M (σ.setContent p c') a w G' (fi++xs)/\Sim G G':=by
 classical
 obtain ⟨e,r,path⟩:=p
 have i:∀ x∈fi,x∈G.fpOf ⟨e,r,path⟩:=λx d=>H.symm.subset (List.mem_append_right _ d)
 have Q:∀ x∈f',x∈G.fpOf ⟨e,r,path⟩:=λx d=>H.symm.subset (List.mem_append_left _ d)
 have f:∀ x∈G.fpOf ⟨e,r,path⟩,G.who x=some (if e then .c r else .s r):=by
  intro x d
  cases e
  ·exact I.whoS r x d
  ·exact I.whoC r x d
 have D:(f'++fi).Nodup:=by
  refine H.nodup_iff.1 ?_
  cases e
  ·exact I.nodS r
  ·exact I.nodC r
 have E:∀ x∈fi,x ∉ f':=λx d hx'=>(List.nodup_append.1 D).2.2 x hx' x d rfl
 let G':Ghost:=⟨G.F,G.St,(λx=>if x∈fi then some .x else G.who x),(λj=>if e=false/\j=r then f' else G.fs j),(λj=>if e=true/\j=r then f' else G.fb j),G.ad⟩
 have hbx:∀ x k,G'.who x=some (.a k)↔G.who x=some (.a k):=by
  intro x k
  show (if x∈fi then some Who.x else G.who x)=some (.a k)↔_
  by_cases d:x∈fi
  ·have:=f x (i x d)
   rw [this];cases e<;>simp [d]
  ·simp [d]
 have P:G'.Al=G.Al:=by
  funext x
  apply propext
  show ((∀ k,(if x∈fi then some Who.x else G.who x)≠some (.a k))/\((if x∈fi then some Who.x else G.who x)=none->G.St x))↔_
  by_cases d:x∈fi
  ·simp only [d,if_true]
   have:=f x (i x d)
   constructor
   ·intro _;exact ⟨λk=>(by rw [this];cases e<;>simp),λh=>(by rw [this] at h;cases h)⟩
   ·intro _;exact ⟨λk=>(by simp),λh=>(by cases h)⟩
  ·simp only [d,if_false];rfl
 have hct:∀ q,(σ.setContent ⟨e,r,path⟩ c').ct q=σ.ct q/\Z09 G' a w q=Z09 G a w q:=by
  rintro ⟨bq,rq,pq⟩
  refine ⟨?_,by cases bq<;>rfl⟩
  cases e with
  | true=>
   simp only [State.content] at g
   cases bq with
   | true=>
    rw [Z1p,Z1p]
    simp only [State.setContent,State.boxAt] at *
    rw [Z0T]
    split
    ·rename_i h;obtain ⟨rfl,_⟩:=h
     rw [g];simp [Z]
    ·rfl
   | false=>rfl
  | false=>
   cases bq with
   | true=>
    simp only [State.setContent]
    split<;>rfl
   | false=>
    rw [Z1l,Z1l,Z0N g]
    by_cases h3:r=rq/\r<σ.slots.length
    ·obtain ⟨rfl,h4⟩:=h3
     simp only [h4,and_self,if_true]
     simp only [State.content] at g
     cases m:σ.slot r with
     | val v=>rw [m] at g;cases g;simp only [Z]
     | tup v ags=>rw [m] at g;cases g;simp only [Z]
     | _=>rw [m] at g;cases g
    ·simp only [h3,if_false]
 refine ⟨G',⟨I.defers,?_,λj R=> ?_,λj u L=> ?_,λj x d=> ?_,λj x d=> ?_,λx d=> ?_,λj=> ?_,λj=> ?_,?_,λx d=> ?_,λx z d=> ?_,I.ext,λj R=>I.adx j (by rw [Z2i] at R;exact R),⟨I.org.F,I.org.St,I.org.St'⟩,I.pin⟩,rfl,rfl,rfl,P,hbx⟩
 ·rw [I.len,Z2i]
 ·have J:j<σ.slots.length:=by rw [Z2i] at R;exact R
  by_cases K:e=false/\j=r
  ·obtain ⟨rfl,rfl⟩:=K
   show Z01 _ G' a w _ _ (if false=false/\j=j then f' else G.fs j)
   simp only [and_self,if_true]
   have Y:=I.slot j J
   have n:=Z0N (c':=c') g j
   simp only [State.content] at g
   simp only [Z09,Option.some.injEq,Prod.mk.injEq] at X
   obtain ⟨rfl,rfl⟩:=X
   simp only [J,and_self,if_true] at n
   rw [n]
   cases m:σ.slot j with
   | val v=>
    rw [m] at Y g
    cases g
    simp only []
    refine ⟨by rw [hag];exact Y.1,?_⟩
    rw [P];exact hR
   | tup v ags=>
    rw [m] at Y g
    cases g
    simp only []
    refine ⟨by rw [Z];exact Y.1,?_⟩
    rw [P];exact hR
   | _=>rw [m] at g;cases g
  ·show Z01 _ G' a w _ _ (if e=false/\j=r then f' else G.fs j)
   simp only [K,if_false]
   have n:(σ.setContent ⟨e,r,path⟩ c').slot j=σ.slot j:=by
    cases e with
    | true=>rfl
    | false=>
     have U:r≠j:=λh=>K ⟨rfl,h.symm⟩
     rw [Z0N g];simp [U]
   rw [n]
   exact Z01.move (λq _=> .inr (hct q)) rfl rfl P (I.slot j J)
 ·have n:∀ j,(σ.setContent ⟨e,r,path⟩ c').boxAt j=if e=true/\r=j/\r<σ.boxes.length then some c' else σ.boxAt j:=by
   intro j
   cases e with
   | true=>simp only [State.setContent,State.boxAt];rw [Z0T];simp
   | false=>simp only [State.setContent];split<;>simp [State.boxAt]
  rw [n] at L
  split at L
  ·rename_i h
   obtain ⟨rfl,rfl,_⟩:=h
   cases L
   simp only [State.content] at g
   obtain ⟨⟨cc,T,C,V⟩,W⟩:=I.box r c g
   simp only [Z09,C,Option.some.injEq,Prod.mk.injEq] at X
   obtain ⟨rfl,rfl⟩:=X
   refine ⟨⟨cc,T,C,?_⟩,?_⟩
   ·rw [P]
    show Rp w G.F G.St G.Al _ _ _ _ (if true=true/\r=r then f' else G.fb r)
    simp only [and_self,if_true];exact hR
   ·show (if G.ad r∈fi then some Who.x else G.who (G.ad r))=_
    split
    ·rename_i A
     have:=f _ (i _ A)
     rw [W] at this;simp at this
    ·exact W
  ·obtain ⟨⟨cc,T,C,V⟩,W⟩:=I.box j u L
   refine ⟨⟨cc,T,C,?_⟩,?_⟩
   ·rw [P]
    show Rp w G.F G.St G.Al _ _ _ _ (if e=true/\j=r then f' else G.fb j)
    split
    ·rename_i B h2
     obtain ⟨rfl,rfl⟩:=h2
     exfalso
     refine B ⟨rfl,rfl,?_⟩
     rcases Nat.lt_or_ge j σ.boxes.length with h | h
     ·exact h
     ·unfold State.boxAt at L;rw [Z2f _ _ h] at L;cases L
    ·exact V
   ·show (if G.ad j∈fi then some Who.x else G.who (G.ad j))=_
    split
    ·rename_i A
     have:=f _ (i _ A)
     rw [W] at this;cases e<;>simp at this
    ·exact W
 ·change x∈(if e=false/\j=r then f' else G.fs j) at d
  show (if x∈fi then some Who.x else G.who x)=_
  split at d
  ·rename_i h;obtain ⟨rfl,rfl⟩:=h
   rw [if_neg (λh=>E x h d)]
   have:=f x (Q x d);simpa using this
  ·rename_i h
   have B:=I.whoS j x d
   rw [if_neg (λA=> ?_)]
   ·exact B
   ·have:=f x (i x A)
    rw [B] at this
    cases e
    ·simp only [Bool.false_eq_true,if_false,Option.some.injEq,Who.s.injEq] at this
     exact h ⟨rfl,this⟩
    ·simp at this
 ·change x∈(if e=true/\j=r then f' else G.fb j) at d
  show (if x∈fi then some Who.x else G.who x)=_
  split at d
  ·rename_i h;obtain ⟨rfl,rfl⟩:=h
   rw [if_neg (λh=>E x h d)]
   have:=f x (Q x d);simpa using this
  ·rename_i h
   have B:=I.whoC j x d
   rw [if_neg (λA=> ?_)]
   ·exact B
   ·have:=f x (i x A)
    rw [B] at this
    cases e
    ·simp at this
    ·simp only [if_true,Option.some.injEq,Who.c.injEq] at this
     exact h ⟨rfl,this⟩
 ·show (if x∈fi then some Who.x else G.who x)=_
  split
  ·rfl
  ·rename_i h
   exact I.whoX x ((List.mem_append.1 d).resolve_left h)
 ·show (if e=false/\j=r then f' else G.fs j).Nodup
  split
  ·exact (List.nodup_append.1 D).1
  ·exact I.nodS j
 ·show (if e=true/\j=r then f' else G.fb j).Nodup
  split
  ·exact (List.nodup_append.1 D).1
  ·exact I.nodC j
 ·refine List.nodup_append.2 ⟨(List.nodup_append.1 D).2.1,I.nodX,λx d y hy he=> ?_⟩
  subst he
  have B:=f x (i x d)
  rw [I.whoX x hy] at B
  cases e<;>simp at B
 ·refine ⟨?_,(I.st x d).2⟩
  show (if x∈fi then some Who.x else G.who x)=_
  split
  ·rename_i A
   have:=f x (i x A)
   rw [(I.st x d).1] at this;cases this
  ·exact (I.st x d).1
 ·change (if x∈fi then some Who.x else G.who x)=some z at d
  split at d
  ·rename_i A
   exact I.lt x _ (f x (i x A))
  ·exact I.lt x z d
theorem Z0v (I:Inv W0 M σ a w G xs) (o:Operand) (h:∀ v ags,σ.peek o≠ .tup v ags):Z01 σ G a w (σ.peek o) (a.eval o) []:=by
 cases o with
 | tmp t=>
  by_cases ht:t<σ.slots.length
  ·have e:=I.slot t ht
   simp only [State.peek] at h ⊢
   cases d:σ.slot t with
   | val v=>
    rw [d] at e
    simp only []
    by_cases g:v.anyOwn
    ·simp only [g,if_true]
     refine ⟨rfl,.inr ⟨Z02 (a.tmps.getD t undef),none,⟨v.τ,Z02 (a.tmps.getD t undef),none,?_,rfl,Z0P _ _ _ _⟩,rfl,e.1⟩⟩
     rw [Z1l,d]
    ·simp only [g,if_false]
     have:G.fs t=[]:=e.2.fp_nil λt ht=>by
      unfold TVal.anyOwn at g
      cases m:t.own with
      | false=>rfl
      | true=>exact absurd (List.any_eq_true.2 ⟨t,ht,m⟩) g
     rw [this] at e
     exact e
   | tup v ags=>rw [d] at h;exact absurd rfl (h v ags)
   | dead=>simp only [Z01]
   | un=>rw [d] at e;exact ⟨e.1,rfl⟩
   | nil=>rw [d] at e;exact ⟨e.1,rfl⟩
   | ref p ag=>rw [d] at e;exact ⟨rfl,e.2⟩
   | ptr p=>rw [d] at e;exact ⟨rfl,e.2⟩
   | eptr u t=>rw [d] at e;exact ⟨rfl,e.2⟩
   | eref p=>rw [d] at e;exact ⟨rfl,e.2⟩
   | tref t' ags=>rw [d] at e;exact ⟨rfl,e.2⟩
   | sptr r y p=>rw [d] at e;exact ⟨rfl,e.2⟩
   | clos f q=>rw [d] at e;exact ⟨rfl,e.2⟩
   | sclos f z u=>rw [d] at e;exact ⟨rfl,e.2⟩
  ·have:σ.slot t= .dead:=Z2f _ _ (Nat.le_of_not_lt ht)
   simp only [State.peek,this,Z01]
 | const v=>
  cases v with
  | int k n=>exact ⟨rfl,rfl,rfl,rfl⟩
  | bool b=>exact ⟨rfl,rfl,rfl,rfl⟩
  | string s=>exact ⟨rfl,rfl,rfl,rfl⟩
  | slice j len cap=>
   cases j with
   | none=>
    cases len with
    | zero=>cases cap with
     | zero=>exact ⟨rfl,rfl⟩
     | succ n=>simp [State.peek,Z01]
    | succ n=>simp [State.peek,Z01]
   | some x=>simp [State.peek,Z01]
  | _=>simp [State.peek,Z01]
 | func f=>exact ⟨rfl,#[],rfl,rfl,λi l=>by simp at l⟩
 | _=>simp [State.peek,Z01]
theorem Z0C {p:Place} {u:TVal} (h:σ.getAt p=some u):∃ c,σ.content p=some c/\Z04 c.τ c.x c.tg p.path=some u:=by
 unfold State.getAt at h
 obtain ⟨c,b,d⟩:=Option.bind_eq_some_iff.1 h
 exact ⟨c,b,d⟩
theorem Z2u (I:Inv W0 M σ a w G xs) {p:Place} {u:TVal} {cs:List Value} {base:Option (Nat×Nat)} (h:σ.getAt p=some u) (n:Z0B σ G a w p cs base) :
  ∃ fp,Rp w G.F G.St G.Al u.τ u.tg cs u.x fp:=by
 obtain ⟨c,i,k⟩:=Z0C h
 obtain ⟨τ,l,b,d,q,m⟩:=n
 obtain ⟨l',r,fp,e,g,v⟩:=Z0G I i
 rw [q] at e
 cases e
 have:τ=c.τ:=by rw [State.ct,i] at d;simpa using d.symm
 subst this
 obtain ⟨f,j,_⟩:=g.get m k
 exact ⟨f,j⟩
theorem TVal.alias_tg (u:TVal):u.alias.tg=u.tg.map Tag.alias:=rfl
theorem Z1q (I:Inv W0 M σ a w G xs) {o:Operand} {v:TVal} (h:σ.look o=some v) :
  Rp w G.F G.St G.Al v.τ v.tg (Z02 (a.eval o)) v.x []/\Z0f v.ag (a.eval o):=by
 unfold State.look at h
 have b:=Z0v I o
 split at h
 ·rename_i u j
  cases h
  rw [j] at b
  have:=b (by simp)
  exact ⟨this.2,this.1⟩
 ·rename_i p ag j
  rw [j] at b
  obtain ⟨_,d⟩:=b (by simp)
  obtain ⟨u,k,rfl⟩:=Option.map_eq_some_iff.1 h
  rcases d with d | ⟨cs,base,f,e,i⟩
  ·obtain ⟨c,l,_⟩:=Z0C k
   rw [State.ct,l] at d;cases d
  ·obtain ⟨fp,g⟩:=Z2u I k f
   rw [e]
   exact ⟨g.alias (Ghost.St_Al I),i⟩
 ·cases h
theorem Z0Z (I:Inv W0 M σ a w G xs) {o:Operand} {τ:Ty} {v:TVal} {σ':State} (h:σ.take o τ=some (v,σ')) :
  ∃ fp G',Inv W0 M σ' a w G' (fp++xs)/\Sim G G'/\v.τ=τ /\
   Rp w G'.F G'.St G'.Al v.τ v.tg (Z02 (a.eval o)) v.x fp/\Z0f v.ag (a.eval o):=by
 unfold State.take at h
 have n:=Z0v I o
 split at h
 ·rename_i D
  rw [D] at n
  obtain ⟨V,_⟩:=n (by simp)
  split at h
  ·cases h
   refine ⟨[],G,I,Sim.refl _,rfl,?_,?_⟩
   ·rw [V]
    exact ⟨.O,none,0,rfl,rfl,Nat.le_refl _,.inl ⟨rfl,rfl,rfl,rfl,rfl⟩⟩
   ·rw [V];rfl
  ·cases h
 ·rename_i u D
  rw [D] at n
  have:=n (by simp)
  split at h
  ·cases h
   rename_i J
   exact ⟨[],G,I,Sim.refl _,J,this.2,this.1⟩
  ·cases h
 ·rename_i p ag D
  rw [D] at n
  obtain ⟨_,H⟩:=n (by simp)
  split at h
  ·rename_i u L
   split at h
   ·rename_i J
    rcases H with H | ⟨cs,base,y,q,C⟩
    ·obtain ⟨c,m,_⟩:=Z0C L
     rw [State.ct,m] at H;cases H
    split at h
    ·rename_i d
     simp only [Bool.and_eq_true] at d
     obtain ⟨σ2,e,he⟩:=Option.map_eq_some_iff.1 h
     cases he
     obtain ⟨c,m,k⟩:=Z0C L
     unfold State.setAt at e
     rw [m] at e
     simp only [Option.bind_some,Option.map_eq_some_iff] at e
     obtain ⟨⟨W,E⟩,P,rfl⟩:=e
     obtain ⟨τc,l,b,r,B,U⟩:=y
     obtain ⟨l',b',fpc,z,g,hw⟩:=Z0G I m
     rw [B] at z
     cases z
     have:τc=c.τ:=by rw [State.ct,m] at r;simpa using r.symm
     subst this
     obtain ⟨f1,fi,f2,Y,R,e3,Z,e5⟩:=Rp.flatLens d.2 g U k
     obtain ⟨fg,A,_⟩:=g.get U k
     have i:cs.take (size u.τ)=cs:=by rw [<-A.len.1];simp
     have j:=e5 u.alias (cs.take (size u.τ)) [] W E P rfl (by rw [i];exact A.alias (Ghost.St_Al I))
     have Q:=Z1v d.2 k
     rw [Z,Z38 (by rw [g.len.1];exact Q)] at j
     have K:G.fpOf p=f1++fi++f2:=by
      rw [<-Y]
      rcases hw with ⟨T,_,rfl,_⟩ | ⟨T,_,rfl,_⟩<;>simp [Ghost.fpOf,T]
     obtain ⟨G',X,f⟩:=I.recontent (c':=⟨c.τ,c.ag,W,E⟩) m rfl rfl B j (fi:=fi) (by
      rw [K]
      simp only [List.append_nil]
      rw [List.append_assoc,List.append_assoc]
      exact List.Perm.append_left _ List.perm_append_comm)
     refine ⟨fi,G',X,f,J,?_,C⟩
     rw [f.F,f.St,f.Al,q]
     rw [i] at R
     exact R
    ·cases h
     obtain ⟨fp,g⟩:=Z2u I L y
     refine ⟨[],G,I,Sim.refl _,J,?_,C⟩
     rw [q]
     exact g.alias (Ghost.St_Al I)
   ·cases h
  ·cases h
 ·cases h
end
end Go.PI
namespace Go.PI
noncomputable section
def zeroCells:Ty->List Value
 | .int k=>[.int k 0]
 | .bool=>[.bool false]
 | .str=>[.string ⟨#[]⟩]
 | .unit=>[]
 | .slice _=>[.slice none 0 0]
 | .pair a b=>zeroCells a++zeroCells b
structure FieldF (P:Program) (tys:List (TypeId×Ty×List TypeId)) (τ:Ty) (l:List TypeId) (fs:Array Field) (i:Nat):Prop where
 out : ∃ f τf lf, fs[i]? = some f ∧ f.type = l.getD i 0 ∧ f.offset = Z0g τ (Z0a l.length i) ∧ Z0d τ (Z0a l.length i) = some τf ∧ Z0o tys f.type = some (τf, lf) ∧ size τf ≠ 0 ∧ f.name ≠ "_"
def Z7p:Ty->Bool
 | .int _=>true
 | .bool=>true
 | .str=>true
 | _=>false
structure TyF (P:Program) (tys:List (TypeId×Ty×List TypeId)) (t:TypeId) (τ:Ty) (l:List TypeId):Prop where
 info:∃ i z,P.info? t=some i/\i.size=size τ/\i.bytes<=65536/\i.bytes≠0/\i.zero=some z/\z.cells.toList=zeroCells τ/\Z0f (!l.isEmpty) z
 und:l=[]->((∀ k,τ= .int k->P.underlying t=some (.int k))/\(τ= .bool->P.underlying t=some .bool)/\(τ= .str->P.underlying t=some .string) /\
  (∀ e,τ= .slice e->∃ et,P.underlying t=some (.slice et)/\Z0y tys et=some e/\(Z7p e=true->agOf tys et=false))/\(τ≠ .unit)/\(∀ a b,τ≠ .pair a b))
 str:l≠[]->∃ fs,P.underlying t=some (.struct fs)/\fs.size=l.length/\(∀ i,i<l.length->FieldF P tys τ l fs i)/\P.stoodInHeld t=false
def Z0e (P:Program) (b:List (TypeId×Ty×List TypeId)):Prop:=∀ t τ l,Z0o b t=some (τ,l)->TyF P b t τ l
def Z39:Ty->List Value->Bool
 | .int k,cs=>match cs with | [.int d n]=>decide (k=d)&&decide (n=0) | _=>false
 | .bool,cs=>match cs with | [.bool b]=> !b | _=>false
 | .str,cs=>match cs with | [.string s]=>decide (s.size=0) | _=>false
 | .unit,cs=>cs.isEmpty
 | .slice _,cs=>match cs with | [.slice none 0 0]=>true | _=>false
 | .pair a b,cs=>Z39 a (cs.take (size a))&&Z39 b (cs.drop (size a))
theorem Z5M:{τ:Ty}->{cs:List Value}->Z39 τ cs=true->cs=zeroCells τ
 | .int k,cs,h=>by
  simp only [Z39] at h
  split at h
  ·simp only [Bool.and_eq_true,decide_eq_true_eq] at h
   obtain ⟨rfl,rfl⟩:=h;rfl
  ·cases h
 | .bool,cs,h=>by
  simp only [Z39] at h
  split at h
  ·rename_i b;cases b
   ·rfl
   ·cases h
  ·cases h
 | .str,cs,h=>by
  simp only [Z39] at h
  split at h
  ·rename_i s
   simp only [decide_eq_true_eq] at h
   obtain ⟨⟨l⟩⟩:=s
   have:l=[]:=List.length_eq_zero_iff.1 h
   subst this;rfl
  ·cases h
 | .unit,cs,h=>by simp only [Z39,List.isEmpty_iff] at h;exact h
 | .slice _,cs,h=>by
  simp only [Z39] at h
  split at h
  ·rfl
  ·cases h
 | .pair a b,cs,h=>by
  simp only [Z39,Bool.and_eq_true] at h
  have d:=Z5M h.1
  have e:=Z5M h.2
  rw [zeroCells,<-d,<-e,List.take_append_drop]
def ZaT:Value->Bool:=one
def Z9D:Value->Bool | .agg _=>true | _=>false
def Z8J (P:Program) (b:List (TypeId×Ty×List TypeId)) (τ:Ty) (l:List TypeId) (e:Array Field) (i:Nat):Bool:=
 match e[i]?,Z0d τ (Z0a l.length i) with
 | some f, some d => decide (f.type = l.getD i 0) && decide (f.offset = Z0g τ (Z0a l.length i)) && decide (Z0y b f.type = some d) && decide (size d ≠ 0) && decide (f.name ≠ "_")
 | _,_=>false
def tyB (P:Program) (b:List (TypeId×Ty×List TypeId)) (t:TypeId) (τ:Ty) (l:List TypeId):Bool:=
 (match P.info? t with
  | some i=>decide (i.size=size τ)&&decide (i.bytes<=65536)&&decide (i.bytes≠0)&&(match i.zero with | some z=>Z39 τ z.cells.toList&&(if l.isEmpty then one z else Z9D z) | none=>false)
  | none=>false) &&
 (match l with
  | []=>(match τ,P.underlying t with
   | .int k,some (.int f)=>decide (k=f)
   | .bool,some .bool=>true
   | .str,some .string=>true
   | .slice e,some (.slice et)=>decide (Z0y b et=some e)&&(!Z7p e|| !agOf b et)
   | _,_=>false)
  | _=>(match P.underlying t with
   | some (.struct d)=>decide (d.size=l.length)&&(List.range l.length).all (Z8J P b τ l d)&& !P.stoodInHeld t
   | _=>false))
def Zam (P:Program) (b:List (TypeId×Ty×List TypeId)):Bool:=b.all λx=>tyB P b x.1 x.2.1 x.2.2
theorem Z6z {α:Type}:{l:List (Nat×α)}->{n:Nat}->{a:α}->Z0o l n=some a->(n,a)∈l
 | (m,b)::l,n,a,h=>by
  simp only [Z0o] at h
  split at h
  ·rename_i d;simp at d;subst d;cases h;simp
  ·exact List.mem_cons_of_mem _ (Z6z h)
theorem ZaD {P:Program} {m:List (TypeId×Ty×List TypeId)} (h:Zam P m=true):Z0e P m:=by
 intro t τ l F
 have H:=Z6z F
 have w:=List.all_eq_true.1 h _ H
 simp only [tyB,Bool.and_eq_true] at w
 obtain ⟨p,b⟩:=w
 refine ⟨?_,?_,?_⟩
 ·split at p
  ·rename_i i v
   simp only [Bool.and_eq_true,decide_eq_true_eq] at p
   obtain ⟨⟨⟨A,B⟩,u⟩,d⟩:=p
   split at d
   ·rename_i z J
    simp only [Bool.and_eq_true] at d
    refine ⟨i,z,v,A,B,u,J,Z5M d.1,?_⟩
    cases q:l.isEmpty with
    | true=>rw [q] at d;simp only [if_true] at d;exact d.2
    | false=>
     rw [q] at d
     simp only [Bool.false_eq_true,if_false] at d
     cases z<;>simp_all [Z9D,Z0f]
   ·cases d
  ·cases p
 ·rintro rfl
  simp only [] at b
  split at b
  ·rename_i k Q g
   simp only [decide_eq_true_eq] at b;subst b
   exact ⟨λk h=>by cases h;exact g,by simp,by simp,by simp,by simp,by simp⟩
  ·rename_i g
   exact ⟨by simp,λ_=>g,by simp,by simp,by simp,by simp⟩
  ·rename_i g
   exact ⟨by simp,by simp,λ_=>g,by simp,by simp,by simp⟩
  ·rename_i e et g
   simp only [Bool.and_eq_true,decide_eq_true_eq,Bool.or_eq_true,Bool.not_eq_true'] at b
   refine ⟨by simp,by simp,by simp,λM h=> ?_,by simp,by simp⟩
   cases h
   exact ⟨et,g,b.1,λI=>b.2.resolve_left (by rw [I];simp)⟩
  ·cases b
 ·intro q
  cases l with
  | nil=>exact absurd rfl q
  | cons a l=>
   simp only [] at b
   split at b
   ·rename_i y g
    simp only [Bool.and_eq_true,decide_eq_true_eq,List.all_eq_true,List.mem_range,Bool.not_eq_true'] at b
    refine ⟨y,g,b.1.1,λi v=> ?_,b.2⟩
    have:=b.1.2 i v
    unfold Z8J at this
    split at this
    ·rename_i f L G K
     simp only [Bool.and_eq_true,decide_eq_true_eq] at this
     obtain ⟨⟨⟨⟨C,D⟩,n⟩,E⟩,r⟩:=this
     unfold Z0y at n
     cases j:Z0o m f.type with
     | none=>rw [j] at n;cases n
     | some x=>
      rw [j] at n
      simp only [Option.map_some,Option.some.injEq] at n
      exact ⟨⟨f,L,x.2,G,C,D,K,by rw [<-n];exact j,E,r⟩⟩
    ·cases this
   ·cases b
theorem Z2Z {w:World} {F:Nat->Nat} {St Al:Nat->Prop}:(τ:Ty)->Rp w F St Al τ (List.replicate (Z06 τ) .O) (zeroCells τ) (zero τ) []
 | .int _=>⟨rfl,rfl,rfl⟩
 | .bool=>⟨rfl,rfl,rfl⟩
 | .str=>⟨rfl,rfl,rfl⟩
 | .unit=>⟨rfl,rfl,rfl⟩
 | .slice e=>⟨.O,none,0,rfl,rfl,Nat.le_refl _,.inl ⟨rfl,rfl,rfl,rfl,rfl⟩⟩
 | .pair a b=>by
  have:=Rp.pair_mk (Z2Z (w:=w) (F:=F) (St:=St) (Al:=Al) a) (Z2Z b)
  rw [List.replicate_append_replicate] at this
  exact this
end
end Go.PI
namespace Go.PI
theorem Z0q {v:Value} (h:one v=true):Z02 v=[v]:=by cases v<;>simp_all [one,Z02,Value.cells]
section
variable {w:World} {F:Nat->Nat} {St Al:Nat->Prop} {v:Value} {tg:List Tag} {fp:List Nat}
theorem Z9z {k:IntKind} {x:Int} (b:Z0f false v) (h:Rp w F St Al (.int k) tg (Z02 v) x fp):v= .int k x:=by
 have:=h.1;rw [Z0q b] at this;simpa using this
theorem Z5L {x:Bool} (b:Z0f false v) (h:Rp w F St Al .bool tg (Z02 v) x fp):v= .bool x:=by
 have:=h.1;rw [Z0q b] at this;simpa using this
theorem Z9A {x:ByteArray} (b:Z0f false v) (h:Rp w F St Al .str tg (Z02 v) x fp):v= .string x:=by
 have:=h.1;rw [Z0q b] at this;simpa using this
theorem Z2B {e:Ty} {x:List (El e)} (f:Z0f false v) (h:Rp w F St Al (.slice e) tg (Z02 v) x fp):∃ a cap,v= .slice a x.length cap/\x.length<=cap:=by
 obtain ⟨t,a,cap,_,b,d,_⟩:=h;rw [Z0q f] at b;exact ⟨a,cap,by simpa using b,d⟩
end
theorem Z21 {w:World} {b o n:Nat} {cs:List Value} (h:Z05 w b o n=some cs) (j:Nat) (v:Value) (e:cs[j]? = some v):w.cell? ((⟨b,o,none⟩:Addr).add j)=some v:=by
 have d:(⟨b,o,none⟩:Addr).add j=⟨b,o+j,none⟩:=by unfold Addr.add;split<;>simp_all
 rw [d]
 unfold Z05 at h
 split at h
 ·rename_i c T fr f
  split at h
  ·cases h
   simp only [World.cell?,f]
   simp only [List.getElem?_take,List.getElem?_drop] at e
   split at e
   ·simpa using e
   ·cases e
  ·cases h
 ·cases h
theorem Z1G (τ:Ty):Z0d τ []=some τ:=by cases τ<;>rfl
theorem Z4D (τ:Ty):Z0g τ []=0:=by cases τ<;>rfl
theorem Z0U {w:World}:{q:List Step}->{τ d:Ty}->{cs:List Value}->{base:Option (Nat×Nat)}->Z0d τ q=some d->cs.length=size τ ->
  Z00 w τ cs base q=some ((cs.drop (Z0g τ q)).take (size d),base.map λx=>(x.1,x.2+Z0g τ q))/\Z0g τ q+size d<=size τ
 | [],τ,d,cs,base,h,e=>by
  rw [Z1G] at h;cases h
  rw [Z0P,Z4D]
  refine ⟨?_,by omega⟩
  rw [List.drop_zero,<-e,List.take_length]
  cases base<;>simp
 | .fst::p,.pair a b,d,cs,base,h,e=>by
  simp only [Z0d] at h
  simp only [size] at e
  obtain ⟨g,i⟩:=Z0U (w:=w) (cs:=cs.take (size a)) (base:=base) h (by simp;omega)
  simp only [Z00,Z0g,size]
  refine ⟨?_,by omega⟩
  rw [g,List.drop_take,List.take_take]
  congr 2
  congr 1
  omega
 | .snd::p,.pair a b,d,cs,base,h,e=>by
  simp only [Z0d] at h
  simp only [size] at e
  obtain ⟨g,i⟩:=Z0U (w:=w) (cs:=cs.drop (size a)) (base:=base.map λx=>(x.1,x.2+size a)) h (by simp;omega)
  simp only [Z00,Z0g,size]
  refine ⟨?_,by omega⟩
  rw [g,List.drop_drop]
  cases base with
  | none=>rfl
  | some z=>simp [Nat.add_assoc]
 | .idx _::_,.int _,_,_,_,h,_=>by simp [Z0d] at h
 | .idx _::_,.bool,_,_,_,h,_=>by simp [Z0d] at h
 | .idx _::_,.str,_,_,_,h,_=>by simp [Z0d] at h
 | .idx _::_,.unit,_,_,_,h,_=>by simp [Z0d] at h
 | .idx _::_,.slice _,_,_,_,h,_=>by simp [Z0d] at h
 | .idx _::_,.pair _ _,_,_,_,h,_=>by simp [Z0d] at h
 | .fst::_,.int _,_,_,_,h,_=>by simp [Z0d] at h
 | .fst::_,.bool,_,_,_,h,_=>by simp [Z0d] at h
 | .fst::_,.str,_,_,_,h,_=>by simp [Z0d] at h
 | .fst::_,.unit,_,_,_,h,_=>by simp [Z0d] at h
 | .fst::_,.slice _,_,_,_,h,_=>by simp [Z0d] at h
 | .snd::_,.int _,_,_,_,h,_=>by simp [Z0d] at h
 | .snd::_,.bool,_,_,_,h,_=>by simp [Z0d] at h
 | .snd::_,.str,_,_,_,h,_=>by simp [Z0d] at h
 | .snd::_,.unit,_,_,_,h,_=>by simp [Z0d] at h
 | .snd::_,.slice _,_,_,_,h,_=>by simp [Z0d] at h
def Z0K (ag:Bool) (cs:List Value):Value:=if ag then .agg cs.toArray else cs.headD undef
theorem Z1Y {P:Program} {j:List (TypeId×Ty×List TypeId)} (J:Z0e P j) {t:TypeId} {τ:Ty} {l:List TypeId} (ht:Z0o j t=some (τ,l)) {w:World} {b o:Nat} {cs:List Value}
  (h:Z05 w b o (size τ)=some cs):(loadVar t ⟨b,o,none⟩).run P w= .ok (Z0K (!l.isEmpty) cs) w:=by
 obtain ⟨⟨i,z,M,Q,_,_,U,T,_⟩,R,u⟩:=J t τ l ht
 have f:=Z1D h
 cases l with
 | cons a l=>
  obtain ⟨A,L,_,_⟩:=u (by simp)
  have:=run_loadCells_list (P:=P) w ⟨b,o,none⟩ cs (Z21 h)
  rw [f,<-Q] at this
  simp [loadVar,isAgg,run_underlying L,sizeOf,typeInfo,M,this,Z0K]
 | nil=>
  have r:∃ d,P.underlying t=some d/\(∀ A,d≠ .struct A)/\(∀ n e,d≠ .array n e)/\size τ=1:=by
   obtain ⟨m,C,D,E,G,H⟩:=R rfl
   cases τ with
   | int k=>exact ⟨_,m k rfl,by simp,by simp,rfl⟩
   | bool=>exact ⟨_,C rfl,by simp,by simp,rfl⟩
   | str=>exact ⟨_,D rfl,by simp,by simp,rfl⟩
   | unit=>exact absurd rfl G
   | slice e=>obtain ⟨et,I,_,_⟩:=E e rfl;exact ⟨_,I,by simp,by simp,rfl⟩
   | pair a b=>exact absurd rfl (H a b)
  obtain ⟨d,K,p,q,y⟩:=r
  have m:∃ c,cs=[c]:=by
   rw [y] at f
   match cs,f with
   | [c],_=>exact ⟨c,rfl⟩
  obtain ⟨c,rfl⟩:=m
  have B:=Z21 h 0 c rfl
  have g:(isAgg t).run P w= .ok false w:=by
   simp only [isAgg,Sem.run_bind,run_underlying K,Result.andThen_ok]
   cases d<;>first | rfl | (exact absurd rfl (p _)) | (exact absurd rfl (q _ _))
  simp only [loadVar,Sem.run_bind,g,Result.andThen_ok,Bool.false_eq_true,if_false]
  rw [run_load]
  have:(⟨b,o,none⟩:Addr).add 0=⟨b,o,none⟩:=by simp [Addr.add]
  rw [this] at B
  rw [B]
  rfl
end Go.PI
namespace Go.PI
def Z4o (w:World) (G:Ghost) (w2:World):Prop:=∀ i b,G.who b=some (.a i)->w2.heap[b]? = w.heap[b]?
def Z6h (w:World) (G:Ghost) (w2:World):Prop:=
 (∀ b,b<w.heap.size->G.Al b->∀ o n cs,o+n<=G.F b->Z05 w b o n=some cs->Z05 w2 b o n=some cs)/\∀ i b,G.who b=some (.a i)->w2.heap[b]? = w.heap[b]?
theorem Rp.ones {w:World} {F:Nat->Nat} {St Al:Nat->Prop}:{τ:Ty}->{tg:List Tag}->{cs:List Value}->{x:El τ}->{fp:List Nat}->Rp w F St Al τ tg cs x fp->∀ c∈cs,one c=true
 | .int _,_,_,_,_,h=>by obtain ⟨rfl,_⟩:=h;simp [one]
 | .bool,_,_,_,_,h=>by obtain ⟨rfl,_⟩:=h;simp [one]
 | .str,_,_,_,_,h=>by obtain ⟨rfl,_⟩:=h;simp [one]
 | .unit,_,_,_,_,h=>by obtain ⟨rfl,_⟩:=h;simp
 | .slice _,_,_,_,_,h=>by obtain ⟨t,a,cap,rfl,rfl,_⟩:=h;simp [one]
 | .pair a b,_,_,_,_,h=>by
  obtain ⟨l,m,g,i,j,k,rfl,rfl,rfl,e,f⟩:=h
  intro c d
  rcases List.mem_append.1 d with d | d
  ·exact Rp.ones e c d
  ·exact Rp.ones f c d
theorem Z1h {ag:Bool} {cs:List Value} (b:∀ c∈cs,one c=true) (d:ag=false->cs.length=1):Z02 (Z0K ag cs)=cs/\Z0f ag (Z0K ag cs):=by
 cases ag with
 | true=>exact ⟨by simp [Z0K,Z02,Value.cells],⟨_,rfl⟩⟩
 | false=>
  match cs,d rfl with
  | [c],_=>
   have:=b c (by simp)
   exact ⟨Z0q this,this⟩
theorem Z31 {w:World} {b o n:Nat} {cs:List Value} (h:Z05 w b o n=some cs) {i m:Nat} (e:i+m<=n):Z05 w b (o+i) m=some ((cs.drop i).take m):=by
 unfold Z05 at *
 split at h
 ·rename_i c T fr d
  split at h
  ·cases h
   rw [if_pos (by omega)]
   congr 1
   rw [List.drop_take,List.drop_drop,List.take_take]
   congr 1
   omega
  ·cases h
 ·cases h
section
variable {W0:Base} {M:Nat->Prop} {σ:State} {a:Act} {w:World} {G:Ghost} {xs:List Nat}
theorem Z3v {F:Nat->Nat} {St Al:Nat->Prop} (u:∀ b,St b->Al b) :
  {path:List Step}->{τ:Ty}->{tg:List Tag}->{cs f:List Value}->{x:El τ}->{fp:List Nat}->{base:Option (Nat×Nat)}->{k o':Nat} ->
  Rp w F St Al τ tg cs x fp->(∀ b o,base=some (b,o)->Z05 w b o cs.length=some cs)->Z00 w τ cs base path=some (f,some (k,o')) ->
  Z05 w k o' f.length=some f/\((∃ o,base=some (k,o)/\o<=o'/\o'+f.length<=o+cs.length)\/(Al k/\o'+f.length<=F k))
 | [],τ,tg,cs,f,x,fp,base,k,o',h,B,d=>by
  rw [Z0P] at d
  simp only [Option.some.injEq,Prod.mk.injEq] at d
  obtain ⟨rfl,g⟩:=d
  exact ⟨B _ _ g,.inl ⟨o',g,Nat.le_refl _,Nat.le_refl _⟩⟩
 | .fst::p,.pair a b,tg,cs,f,x,fp,base,k,o',h,B,d=>by
  have q:=h.len.1
  obtain ⟨f1,f2,rfl,Y,Z⟩:=h.pair_parts
  simp only [size] at q
  obtain ⟨C,y⟩:=Z3v u (path:=p) Y (λb o g=>by
   have:=Z31 (B b o g) (i:=0) (m:=(cs.take (size a)).length) (by simp;omega)
   simp only [Nat.add_zero,List.drop_zero] at this
   rw [this];simp) d
  refine ⟨C,y.imp (λ⟨o,r,Q,L⟩=>⟨o,r,Q,?_⟩) id⟩
  simp at L;omega
 | .snd::p,.pair a b,tg,cs,f,x,fp,base,k,o',h,B,d=>by
  have q:=h.len.1
  obtain ⟨f1,f2,rfl,Y,Z⟩:=h.pair_parts
  simp only [size] at q
  obtain ⟨C,y⟩:=Z3v u (path:=p) Z (λb o g=>by
   cases j:base with
   | none=>rw [j] at g;cases g
   | some z=>
    rw [j] at g
    simp only [Option.map_some,Option.some.injEq,Prod.mk.injEq] at g
    obtain ⟨rfl,rfl⟩:=g
    have:=Z31 (B z.1 z.2 j) (i:=size a) (m:=(cs.drop (size a)).length) (by simp;omega)
    rw [this,List.take_length]) d
  refine ⟨C,y.imp (λ⟨o,r,Q,L⟩=> ?_) id⟩
  cases j:base with
  | none=>rw [j] at r;cases r
  | some z=>
   rw [j] at r
   simp only [Option.map_some,Option.some.injEq,Prod.mk.injEq] at r
   obtain ⟨rfl,rfl⟩:=r
   refine ⟨z.2,rfl,by omega,?_⟩
   simp at L;omega
 | .idx i::p,.slice e,tg,cs,f,x,fp,base,k,o',h,B,d=>by
  obtain ⟨t,ad,cap,rfl,rfl,hlc,h⟩:=h
  simp only [Z00] at d
  split at d
  ·rename_i b o len X D
   simp only [List.cons.injEq,Value.slice.injEq,and_true] at D
   obtain ⟨rfl,rfl,rfl⟩:=D
   split at d
   ·rename_i E
    split at d
    ·rename_i P v
     have T:=Z1D v
     have hbd:o+i * size e+size e<=o+List.length (α:=El e) x * size e:=by
      have:(i+1) * size e<=List.length (α:=El e) x * size e:=Nat.mul_le_mul_right _ E
      rw [Nat.add_mul,Nat.one_mul] at this
      omega
     have J:∀ {K f'} (_:Rp w F St Al e K P (List.get (α:=El e) x ⟨i,E⟩) f') (_:Al b) (_:o+List.length (α:=El e) x * size e<=F b),
       Z05 w k o' f.length=some f/\((∃ o,base=some (k,o)/\o<=o'/\o'+f.length<=o+1)\/(Al k/\o'+f.length<=F k)):=by
      intro K f' H A R
      obtain ⟨C,y⟩:=Z3v u (path:=p) H (λW V g=>by
       simp only [Option.some.injEq,Prod.mk.injEq] at g
       obtain ⟨rfl,rfl⟩:=g
       rw [T];exact v) d
      refine ⟨C,.inr ?_⟩
      rcases y with ⟨V,r,Q,L⟩ | y
      ·simp only [Option.some.injEq,Prod.mk.injEq] at r
       obtain ⟨rfl,rfl⟩:=r
       exact ⟨A,by omega⟩
      ·exact y
     rcases h with ⟨_,hn,_⟩ | ⟨ho,W,V,fps,l,A,rfl,hlf,hr,R,U⟩ | ⟨ho,rfl,h⟩
     ·cases hn
     ·simp only [Option.some.injEq,Addr.mk.injEq,and_true] at l
      obtain ⟨rfl,rfl⟩:=l
      obtain ⟨c2,n,H⟩:=U i E
      rw [v] at n
      cases n
      exact J H A (by omega)
     ·rcases h with h | ⟨W,V,l,I,R,U⟩
      ·subst h;simp at E
      ·simp only [Option.some.injEq,Addr.mk.injEq,and_true] at l
       obtain ⟨rfl,rfl⟩:=l
       obtain ⟨c2,n,H⟩:=U i E
       rw [v] at n
       cases n
       refine J H ?_ R
       cases t with
       | S=>exact u b I
       | N=>exact I
       | _=>cases ho
    ·cases d
   ·cases d
  ·cases d
 | .fst::_,.int _,_,_,_,_,_,_,_,_,_,_,d=>by simp [Z00] at d
 | .fst::_,.bool,_,_,_,_,_,_,_,_,_,_,d=>by simp [Z00] at d
 | .fst::_,.str,_,_,_,_,_,_,_,_,_,_,d=>by simp [Z00] at d
 | .fst::_,.unit,_,_,_,_,_,_,_,_,_,_,d=>by simp [Z00] at d
 | .fst::_,.slice _,_,_,_,_,_,_,_,_,_,_,d=>by simp [Z00] at d
 | .snd::_,.int _,_,_,_,_,_,_,_,_,_,_,d=>by simp [Z00] at d
 | .snd::_,.bool,_,_,_,_,_,_,_,_,_,_,d=>by simp [Z00] at d
 | .snd::_,.str,_,_,_,_,_,_,_,_,_,_,d=>by simp [Z00] at d
 | .snd::_,.unit,_,_,_,_,_,_,_,_,_,_,d=>by simp [Z00] at d
 | .snd::_,.slice _,_,_,_,_,_,_,_,_,_,_,d=>by simp [Z00] at d
 | .idx _::_,.int _,_,_,_,_,_,_,_,_,_,_,d=>by simp [Z00] at d
 | .idx _::_,.bool,_,_,_,_,_,_,_,_,_,_,d=>by simp [Z00] at d
 | .idx _::_,.str,_,_,_,_,_,_,_,_,_,_,d=>by simp [Z00] at d
 | .idx _::_,.unit,_,_,_,_,_,_,_,_,_,_,d=>by simp [Z00] at d
 | .idx _::_,.pair _ _,_,_,_,_,_,_,_,_,_,_,d=>by simp [Z00] at d
theorem Z1E (I:Inv W0 M σ a w G xs) {p:Place} {cs:List Value} {b o:Nat} (F:Z0B σ G a w p cs (some (b,o))) {w2:World} (z:Z6h w G w2) :
  Z05 w2 b o cs.length=some cs:=by
 obtain ⟨τ,l,A,u,h,E⟩:=F
 obtain ⟨c,r,rfl⟩:=Option.map_eq_some_iff.1 u
 obtain ⟨l',K,fp,i,v,J⟩:=Z0G I r
 rw [h] at i
 cases i
 have e:∀ b o,A=some (b,o)->Z05 w b o l.length=some l/\w2.heap[b]? = w.heap[b]? := by
  intro b o d
  rcases J with ⟨y,q,_,f⟩ | ⟨y,_,_,f,_⟩
  ·rw [f] at d
   simp only [Option.some.injEq,Prod.mk.injEq] at d
   obtain ⟨rfl,rfl⟩:=d
   obtain ⟨⟨k,T,g,H⟩,j⟩:=I.box _ _ q
   refine ⟨?_,z.2 _ _ j⟩
   have:l=k.toList:=by
    unfold Z09 at h
    rw [y] at h
    simp only [g,Option.some.injEq,Prod.mk.injEq] at h
    exact h.1.symm
   subst this
   unfold Z05
   rw [g]
   simp only [Nat.zero_add,List.drop_zero]
   rw [if_pos (by have:k.toList.length=k.size:=Array.length_toList;omega),List.take_length]
  ·rw [f] at d;cases d
 obtain ⟨m,B⟩:=Z3v (Ghost.St_Al I) v (λb o d=>(e b o d).1) E
 rcases B with ⟨L,C,_⟩ | ⟨n,D⟩
 ·rw [Z10 (e _ _ C).2];exact m
 ·exact z.1 b (Z0X m) n _ _ _ D m
theorem Z1L (I:Inv W0 M σ a w G xs) {p:Place} {u:TVal} {cs:List Value} {base:Option (Nat×Nat)} (h:σ.getAt p=some u) (d:Z0B σ G a w p cs base) :
  cs.length=size u.τ/\∀ c∈cs,one c=true:=by
 obtain ⟨fp,b⟩:=Z2u I h d
 exact ⟨b.len.1,b.ones⟩
theorem Z2z (I:Inv W0 M σ a w G xs) {p:Place} {ag:Bool} {tv:TV} {v:Value} {cs:List Value} {base:Option (Nat×Nat)} (h:Z36 σ p ag=some tv) (d:Z0B σ G a w p cs base)
  (g:Z02 v=cs) (f:Z0f ag v):Z01 σ G a w tv v []:=by
 unfold Z36 at h
 split at h
 ·rename_i u j
  cases h
  split
  ·rename_i i
   obtain ⟨fp,e⟩:=Z2u I j d
   have b:fp=[]:=e.fp_nil λt ht=>by
    have:=List.all_eq_true.1 i t ht
    cases t<;>first | rfl | cases this
   subst b
   exact ⟨f,by rw [g];exact e⟩
  ·exact ⟨rfl,.inr ⟨cs,base,d,g,f⟩⟩
 ·cases h
theorem Z0w.some {p:Place} {v:Value} {u:TVal} (h:Z0w σ G a w p v) (e:σ.getAt p=some u):∃ cs b,Z0B σ G a w p cs (some b)/\v= .pointer (some ⟨b.1,b.2,none⟩):=by
 rcases h with h | h
 ·obtain ⟨c,d,_⟩:=Z0C e
  rw [State.ct,d] at h;cases h
 ·exact h
theorem Z03 {ρ:Operand->Value} {o:Oper} {op:Op} (h:o.op=op):execOp ρ o=execOp ρ { o with op:=op }:=by cases o;simp only at h;subst h;rfl
def Z5O (P:Program) (σ:State) (a:Act) (w:World) (G:Ghost) (o:Oper) (tv:TV):Prop:=
 ∃ v,Z01 σ G a w tv v []/\∀ w2,Z6h w G w2->(execOp a.eval o).run P w2= .ok (.value v) w2
def Z0O (P:Program) (σ:State) (a:Act) (w:World) (G:Ghost) (o:Oper) (tv:TV):Prop:=
 ∃ v,Z01 σ G a w tv v []/\∀ w2,(execOp a.eval o).run P w2= .ok (.value v) w2
theorem Z0O.ok {P:Program} {σ:State} {a:Act} {w:World} {G:Ghost} {o:Oper} {tv:TV} (h:Z0O P σ a w G o tv):Z5O P σ a w G o tv:=by
 obtain ⟨v,b,d⟩:=h
 exact ⟨v,b,λw2 _=>d w2⟩
theorem Z8V {P:Program} {j:List (TypeId×Ty×List TypeId)} (D:Z0e P j) (I:Inv W0 M σ a w G xs) {o:Oper} {t:TypeId} {x:Operand} (V:o.op= .load t x) {g:Bool} {tv:TV}
  (h:Z0l j σ o.op=some (g,tv)):Z5O P σ a w G o tv:=by
 rw [V] at h
 simp only [Z0l] at h
 have k:=Z0v I x
 split at h
 ·rename_i τ p U Q
  rw [Q] at k
  have k:=k (by simp)
  split at h
  ·rename_i u R
   split at h
   ·rename_i q
    obtain ⟨Y,C,E⟩:=Option.map_eq_some_iff.1 h
    simp only [Prod.mk.injEq] at E
    obtain ⟨rfl,rfl⟩:=E
    obtain ⟨⟨A,l⟩,f,v⟩:=Option.map_eq_some_iff.1 U
    simp only at v;subst v
    obtain ⟨cs,b,y,T⟩:=k.2.2.2.some R
    obtain ⟨e,z⟩:=Z1L I R y
    have m:agOf j t= !l.isEmpty:=by simp [agOf,f]
    have n:=Z1h (ag:=agOf j t) z (λB=>by
     rw [e,q]
     rw [m] at B
     have K:l=[]:=by simpa using B
     obtain ⟨_,_,_,_,F,H⟩:=(D t A l f).und K
     cases A<;>first | rfl | (exact absurd rfl F) | (exact absurd rfl (H _ _)))
    refine ⟨Z0K (agOf j t) cs,Z2z I C y n.1 n.2,λw2 J=> ?_⟩
    have d:=Z1E I y J
    rw [e,q] at d
    have:=Z1Y (w:=w2) D f d
    rw [Z03 V]
    simp only [execOp,T,Instr.loadAt,Instr.sureAddr,Sem.run_bind,Sem.run_pure,Result.andThen_ok,this,m]
   ·cases h
  ·cases h
 ·rename_i τ p U Q
  rw [Q] at k
  have k:=k (by simp)
  split at h
  ·rename_i u R
   split at h
   ·rename_i q
    obtain ⟨Y,C,E⟩:=Option.map_eq_some_iff.1 h
    simp only [Prod.mk.injEq] at E
    obtain ⟨rfl,rfl⟩:=E
    obtain ⟨⟨A,l⟩,f,v⟩:=Option.map_eq_some_iff.1 U
    simp only at v;subst v
    obtain ⟨cs,b,y,T⟩:=k.2.some R
    obtain ⟨e,z⟩:=Z1L I R y
    have m:agOf j t= !l.isEmpty:=by simp [agOf,f]
    have n:=Z1h (ag:=agOf j t) z (λB=>by
     rw [e,q]
     rw [m] at B
     have K:l=[]:=by simpa using B
     obtain ⟨_,_,_,_,F,H⟩:=(D t A l f).und K
     cases A<;>first | rfl | (exact absurd rfl F) | (exact absurd rfl (H _ _)))
    refine ⟨Z0K (agOf j t) cs,Z2z I C y n.1 n.2,λw2 J=> ?_⟩
    have d:=Z1E I y J
    rw [e,q] at d
    have:=Z1Y (w:=w2) D f d
    rw [Z03 V]
    simp only [execOp,T,Instr.loadAt,Instr.sureAddr,Sem.run_bind,Sem.run_pure,Result.andThen_ok,this,m]
   ·cases h
  ·cases h
 ·rename_i τ u tg U Q
  rw [Q] at k
  obtain ⟨_,hto,b,off,cs,T,d,X,Z,hN,hr⟩:=k (by simp)
  split at h
  ·rename_i q
   simp only [Option.some.injEq,Prod.mk.injEq] at h
   obtain ⟨rfl,rfl⟩:=h
   obtain ⟨⟨A,l⟩,f,v⟩:=Option.map_eq_some_iff.1 U
   simp only at v;subst v
   have e:=hr.len.1
   have m:agOf j t= !l.isEmpty:=by simp [agOf,f]
   have n:=Z1h (ag:=agOf j t) hr.ones (λB=>by
    rw [e,q]
    rw [m] at B
    have K:l=[]:=by simpa using B
    obtain ⟨_,_,_,_,F,H⟩:=(D t A l f).und K
    cases A<;>first | rfl | (exact absurd rfl F) | (exact absurd rfl (H _ _)))
   refine ⟨Z0K (agOf j t) cs,⟨n.2,?_⟩,λw2 J=> ?_⟩
   ·rw [n.1]
    exact hr.alias (Ghost.St_Al I)
   ·have ab:G.Al b:=by
     cases tg with
     | S=>exact Ghost.St_Al I b X
     | N=>exact X
     | _=>cases hto
    have i:=J.1 b (Z0X d) ab _ _ _ Z d
    rw [q] at i
    have:=Z1Y (w:=w2) D f i
    rw [Z03 V]
    simp only [execOp,T,Instr.loadAt,Instr.sureAddr,Sem.run_bind,Sem.run_pure,Result.andThen_ok,this,m]
  ·cases h
 ·rename_i τ r τr p U Q
  rw [Q] at k
  obtain ⟨_,hfl,b,off,τ2,T,ac,af,d,aa,Z⟩:=k (by simp)
  split at h
  ·rename_i c hsl
   split at h
   ·rename_i ad
    split at h
    ·rename_i u R
     split at h
     ·rename_i q
      obtain ⟨Y,C,E⟩:=Option.map_eq_some_iff.1 h
      simp only [Prod.mk.injEq] at E
      obtain ⟨rfl,rfl⟩:=E
      obtain ⟨⟨A,l⟩,f,v⟩:=Option.map_eq_some_iff.1 U
      simp only at v;subst v
      subst ad
      obtain ⟨ae,_⟩:=Z0U (w:=w) (cs:=Z02 (a.tmps.getD r undef)) (base:=none) ac af
      have y:Z0B σ G a w ⟨false,r,p⟩ (((Z02 (a.tmps.getD r undef)).drop (Z0g c.τ p)).take (size τ2)) none:=
       ⟨c.τ,Z02 (a.tmps.getD r undef),none,by simp [State.ct,State.content,hsl],rfl,ae⟩
      obtain ⟨e,z⟩:=Z1L I R y
      have L:=Z1D d
      have m:agOf j t= !l.isEmpty:=by simp [agOf,f]
      have n:=Z1h (ag:=agOf j t) z (λB=>by
       rw [e,q]
       rw [m] at B
       have K:l=[]:=by simpa using B
       obtain ⟨_,_,_,_,F,H⟩:=(D t A l f).und K
       cases A<;>first | rfl | (exact absurd rfl F) | (exact absurd rfl (H _ _)))
      refine ⟨Z0K (agOf j t) _,Z2z I C y n.1 n.2,λw2 J=> ?_⟩
      have i:=J.1 b (Z0X d) (Ghost.St_Al I b aa) _ _ _ Z d
      have W:size τ2=size A:=by rw [<-L,e,q]
      rw [W] at i
      have:=Z1Y (w:=w2) D f i
      rw [Z03 V]
      simp only [execOp,T,Instr.loadAt,Instr.sureAddr,Sem.run_bind,Sem.run_pure,Result.andThen_ok,this,m,W]
     ·cases h
    ·cases h
   ·cases h
  ·cases h
 ·cases h
end
end Go.PI
namespace Go.PI
section
variable {W0:Base} {M:Nat->Prop} {σ:State} {a:Act} {w:World} {G:Ghost} {xs:List Nat} {P:Program} {tys:List (TypeId×Ty×List TypeId)} {o:Oper} {g:Bool} {tv:TV}
theorem Z0A {τ:Ty} {x:El τ} {v:Value} (b:one v=true) (d:Rp w G.F G.St G.Al τ [] [v] x []):Z01 σ G a w (.val (Z0z τ x)) v []:=
 ⟨b,by rw [Z0q b];exact d⟩
theorem Z9a {σ:State} {i:Nat} (h:Z0u .dead σ.slots i≠ .dead):i<σ.slots.length:=by
 rcases Nat.lt_or_ge i σ.slots.length with b | b
 ·exact b
 ·exact absurd (Z2f (d:=TV.dead) σ.slots i b) h
theorem Z3g (I:Inv W0 M σ a w G xs) {x:Operand} (e:o.op= .move x) (h:Z0l tys σ o.op=some (g,tv)):Z0O P σ a w G o tv:=by
 rw [e] at h
 simp only [Z0l] at h
 have m:=Z0v I x
 split at h
 ·cases h
 ·cases h
 ·rename_i v ags b
  split at h
  ·rename_i t
   simp only [Option.some.injEq,Prod.mk.injEq] at h
   obtain ⟨rfl,rfl⟩:=h
   have d:σ.slot t= .tup v ags:=by
    simp only [State.peek] at b
    split at b
    ·split at b<;>cases b
    ·exact b
   have i:=I.slot t (Z9a (by rw [show Z0u .dead σ.slots t= .tup v ags from d];simp))
   rw [d] at i
   obtain ⟨⟨vs,n,f⟩,r⟩:=i
   refine ⟨a.eval (.tmp t),⟨rfl,λτ j=>⟨rfl,vs,n,?_⟩⟩,λw2=>by rw [Z03 e];rfl⟩
   rw [Z1l,d] at j
   cases j
   exact f
  ·cases h
 ·rename_i q p k
  simp only [Option.some.injEq,Prod.mk.injEq] at h
  obtain ⟨rfl,rfl⟩:=h
  refine ⟨a.eval x,m (λv ags l=>k v ags l),λw2=> ?_⟩
  rw [Z03 e];rfl
theorem Z0Q (I:Inv W0 M σ a w G xs) {x:Operand} {k:IntKind} {n:Int} {tg:List Tag} (h:σ.look x=some ⟨.int k,false,n,tg⟩):a.eval x= .int k n:=by
 obtain ⟨b,d⟩:=Z1q I h;exact Z9z d b
theorem Z25 (I:Inv W0 M σ a w G xs) {x:Operand} {b:Bool} {tg:List Tag} (h:σ.look x=some ⟨.bool,false,b,tg⟩):a.eval x= .bool b:=by
 obtain ⟨d,e⟩:=Z1q I h;exact Z5L e d
theorem Z26 (I:Inv W0 M σ a w G xs) {x:Operand} {s:ByteArray} {tg:List Tag} (h:σ.look x=some ⟨.str,false,s,tg⟩):a.eval x= .string s:=by
 obtain ⟨b,d⟩:=Z1q I h;exact Z9A d b
theorem Z8t (I:Inv W0 M σ a w G xs) {x:Operand} {e:Ty} {l:List (El e)} {tg:List Tag} (h:σ.look x=some ⟨.slice e,false,l,tg⟩):∃ b cap,a.eval x= .slice b l.length cap/\l.length<=cap:=by
 obtain ⟨d,f⟩:=Z1q I h;exact Z2B f d
theorem Z6P (I:Inv W0 M σ a w G xs) {f:UnOp} {t:TypeId} {x:Operand} (e:o.op= .unOp f t x) (h:Z0l tys σ o.op=some (g,tv)):Z0O P σ a w G o tv:=by
 rw [e] at h
 cases f
 case neg=>
  simp only [Z0l] at h
  split at h
  ·rename_i k n tg d
   simp only [Option.some.injEq,Prod.mk.injEq] at h
   obtain ⟨rfl,rfl⟩:=h
   refine ⟨.int k (k.wrap (0-n)),Z0A rfl ⟨rfl,rfl,rfl⟩,λw2=> ?_⟩
   rw [Z03 e]
   simp only [execOp,Z0Q I d]
   simp [Op.unary,Op.intArith]
  ·cases h
 case not=>
  simp only [Z0l] at h
  split at h
  ·rename_i b tg d
   simp only [Option.some.injEq,Prod.mk.injEq] at h
   obtain ⟨rfl,rfl⟩:=h
   refine ⟨.bool (!b),Z0A rfl ⟨rfl,rfl,rfl⟩,λw2=> ?_⟩
   rw [Z03 e]
   simp only [execOp,Z25 I d]
   simp [Op.unary]
  ·cases h
 all_goals (simp only [Z0l] at h;cases h)
theorem Z9w {x y:ByteArray} (h:lim (x.size+y.size)=true) (w2:World):(Op.stringOp .add x y).run P w2= .ok (.string (x++y)) w2:=by
 refine run_string_add_sum (P:=P) w2 x y ?_
 have b:x.size+y.size<=LIM:=of_decide_eq_true h
 have:LIM=2147483648:=rfl
 omega
theorem Z9x {k:IntKind} {m n:Int} (h:¬ n=0) (w2:World):(Op.intDiv .quo k m n).run P w2= .ok (.int k (k.wrap (m.tdiv n))) w2:=by
 unfold Op.intDiv;rw [if_neg h];rfl
theorem Z9y {k:IntKind} {m n:Int} (h:¬ n=0) (w2:World):(Op.intDiv .rem k m n).run P w2= .ok (.int k (m.tmod n)) w2:=by
 unfold Op.intDiv;rw [if_neg h];rfl
theorem Z5B {t:TypeId} (h:P.underlying t=some .bool) (x y:Bool) (w2:World):(Op.equal t (.bool x) (.bool y)).run P w2= .ok (x==y) w2:=by
 show (Op.equalIn (9999+1) t (.bool x) (.bool y)).run P w2=_
 unfold Op.equalIn
 simp only [Sem.run_bind,run_underlying h,Result.andThen_ok]
 rfl
theorem Z8S (b:BinOp) (k:IntKind) (m n:Int) {r:Bool×TVal} (e:Z96 b k m n=some r) (d:r.1=true) (t:TypeId) (x y:Operand) :
  ∃ v,(∀ {σ:State} {a:Act} {w:World} {G:Ghost},Z01 σ G a w (.val r.2) v [])/\∀ w2,((do eqGuard b t x y (.int k m) (.int k n);binOp b t (.int k m) (.int k n):Sem Value)).run P w2= .ok v w2:=by
 cases b<;>simp only [Z96,Option.some.injEq,reduceCtorEq] at e<;>subst e<;>simp only [Bool.not_eq_true',decide_eq_false_iff_not] at d
 case quo=>
  refine ⟨_,Z0A rfl ⟨rfl,rfl,rfl⟩,λw2=> ?_⟩
  simp only [eqGuard_at_int,Sem.run_bind,Sem.run_pure,Result.andThen_ok]
  simp only [binOp,ne_eq,not_true_eq_false,if_false]
  exact Z9x d w2
 case rem=>
  refine ⟨_,Z0A rfl ⟨rfl,rfl,rfl⟩,λw2=> ?_⟩
  simp only [eqGuard_at_int,Sem.run_bind,Sem.run_pure,Result.andThen_ok]
  simp only [binOp,ne_eq,not_true_eq_false,if_false]
  exact Z9y d w2
 all_goals
  refine ⟨_,Z0A rfl ⟨rfl,rfl,rfl⟩,λw2=> ?_⟩
  simp [eqGuard_at_int,binOp,Op.intArith,Op.intCmp,Op.intBits]
theorem Z8T (b:BinOp) (m n:ByteArray) {r:Bool×TVal} (d:Z97 b m n=some r) (e:r.1=true) (t:TypeId) (x y:Operand) :
  ∃ v,(∀ {σ:State} {a:Act} {w:World} {G:Ghost},Z01 σ G a w (.val r.2) v [])/\∀ w2,((do eqGuard b t x y (.string m) (.string n);binOp b t (.string m) (.string n):Sem Value)).run P w2= .ok v w2:=by
 cases b<;>simp only [Z97,Option.some.injEq,reduceCtorEq] at d<;>subst d
 case add=>
  refine ⟨.string (m++n),Z0A rfl ⟨rfl,rfl,rfl⟩,λw2=> ?_⟩
  simp only [eqGuard_at_string,binOp_string_add,Sem.run_bind,Sem.run_pure,Result.andThen_ok]
  exact Z9w e w2
 all_goals exact ⟨_,Z0A rfl ⟨rfl,rfl,rfl⟩,λw2=>by simp [eqGuard_at_string,binOp,Op.stringOp]⟩
theorem Z0R {t:TypeId} {τ:Ty} (h:Z0y tys t=some τ):∃ l,Z0o tys t=some (τ,l)/\agOf tys t= !l.isEmpty:=by
 obtain ⟨⟨e,l⟩,b,d⟩:=Option.map_eq_some_iff.1 h
 simp only at d;subst d
 exact ⟨l,b,by simp [agOf,b]⟩
theorem Z7D (f:Z0e P tys) {t:TypeId} (h:Z0y tys t=some .bool) (e:agOf tys t=false):P.underlying t=some .bool:=by
 obtain ⟨l,d,b⟩:=Z0R h
 rw [b] at e
 have i:l=[]:=by simpa using e
 exact ((f t _ _ d).und i).2.1 rfl
theorem Z1I (f:Z0e P tys) {t:TypeId} (h:Z0y tys t=some .str) (e:agOf tys t=false):P.underlying t=some .string:=by
 obtain ⟨l,d,b⟩:=Z0R h
 rw [b] at e
 have i:l=[]:=by simpa using e
 exact ((f t _ _ d).und i).2.2.1 rfl
theorem Z5t (f:Z0e P tys) {t:TypeId} {k:IntKind} (h:Z0y tys t=some (.int k)) (e:agOf tys t=false):P.underlying t=some (.int k):=by
 obtain ⟨l,d,b⟩:=Z0R h
 rw [b] at e
 have i:l=[]:=by simpa using e
 exact ((f t _ _ d).und i).1 k rfl
theorem Z11 (p:Z0e P tys) {t:TypeId} {e:Ty} (h:Z0y tys t=some (.slice e)) (f:agOf tys t=false):∃ et l,P.underlying t=some (.slice et)/\Z0o tys et=some (e,l)/\(Z7p e=true->l=[]):=by
 obtain ⟨l,d,b⟩:=Z0R h
 rw [b] at f
 have q:l=[]:=by simpa using f
 obtain ⟨et,i,j,m⟩:=((p t _ _ d).und q).2.2.2.1 e rfl
 obtain ⟨l',k,n⟩:=Z0R j
 exact ⟨et,l',i,k,λr=>by have:=m r;rw [n] at this;simpa using this⟩
theorem Z8U (z:Z0e P tys) (I:Inv W0 M σ a w G xs) {l:BinOp} {t ty:TypeId} {x y:Operand} (h:o.op= .binOp l t x y ty) {u v:TVal} (i:σ.look x=some u) (j:σ.look y=some v) {r:Bool×TVal} (b:Z98 tys t l u v=some r) (d:r.1=true):Z0O P σ a w G o (.val r.2):=by
 ·unfold Z98 at b
  split at b
  ·rename_i k m _ A n _
   simp only [Option.some.injEq] at b
   subst b
   simp only [Bool.not_eq_true',decide_eq_false_iff_not] at d
   refine ⟨_,Z0A rfl ⟨rfl,rfl,rfl⟩,λw2=> ?_⟩
   rw [Z03 h]
   simp only [execOp,Z0Q I i,Z0Q I j]
   have:¬ (n<0):=d
   simp [eqGuard_at_int,binOp,Op.shift,this]
  ·rename_i k m _ A n _
   simp only [Option.some.injEq] at b
   subst b
   simp only [Bool.not_eq_true',decide_eq_false_iff_not] at d
   refine ⟨_,Z0A rfl ⟨rfl,rfl,rfl⟩,λw2=> ?_⟩
   rw [Z03 h]
   simp only [execOp,Z0Q I i,Z0Q I j]
   have:¬ (n<0):=d
   simp [eqGuard_at_int,binOp,Op.shift,this]
  ·rename_i k m _ A n _ _ _
   split at b
   ·rename_i D
    subst D
    obtain ⟨v,q,f⟩:=Z8S (P:=P) l k m n b d t x y
    refine ⟨v,q,λw2=> ?_⟩
    rw [Z03 h]
    simp only [execOp,Z0Q I i,Z0Q I j]
    have:=f w2
    simp only [Sem.run_bind] at this ⊢
    rw [this];rfl
   ·cases b
  ·rename_i m _ n _
   obtain ⟨v,q,f⟩:=Z8T (P:=P) l m n b d t x y
   refine ⟨v,q,λw2=> ?_⟩
   rw [Z03 h]
   simp only [execOp,Z26 I i,Z26 I j]
   have:=f w2
   simp only [Sem.run_bind] at this ⊢
   rw [this];rfl
  ·rename_i B _ C _
   split at b
   ·rename_i e
    simp only [Option.some.injEq] at b
    subst b
    have p:=Z7D z e.1 e.2
    refine ⟨_,Z0A rfl ⟨rfl,rfl,rfl⟩,λw2=> ?_⟩
    rw [Z03 h]
    simp only [execOp,Z25 I i,Z25 I j]
    simp only [eqGuard_at_bool,binOp,Sem.run_bind,Sem.run_pure,Result.andThen_ok,Z5B p]
   ·cases b
  ·rename_i B _ C _
   split at b
   ·rename_i e
    simp only [Option.some.injEq] at b
    subst b
    have p:=Z7D z e.1 e.2
    refine ⟨_,Z0A rfl ⟨rfl,rfl,rfl⟩,λw2=> ?_⟩
    rw [Z03 h]
    simp only [execOp,Z25 I i,Z25 I j]
    simp only [eqGuard_at_bool,binOp,Sem.run_bind,Sem.run_pure,Result.andThen_ok,Z5B p]
   ·cases b
  ·cases b
end
end Go.PI
namespace Go.PI
section
variable {W0:Base} {M:Nat->Prop} {σ:State} {a:Act} {w:World} {G:Ghost} {xs:List Nat} {P:Program} {tys:List (TypeId×Ty×List TypeId)} {o:Oper} {g:Bool} {tv:TV}
theorem ZaE (i:Z0e P tys) {t:TypeId} {τ:Ty} (h:Z0y tys t=some τ):∃ d,P.underlying t=some d:=by
 obtain ⟨l,f,v⟩:=Z0R h
 cases l with
 | cons c l=>obtain ⟨z,y,_⟩:=(i t _ _ f).str (by simp);exact ⟨_,y⟩
 | nil=>
  obtain ⟨j,m,n,p,q,r⟩:=(i t _ _ f).und rfl
  cases τ with
  | int k=>exact ⟨_,j k rfl⟩
  | bool=>exact ⟨_,m rfl⟩
  | str=>exact ⟨_,n rfl⟩
  | unit=>exact absurd rfl q
  | slice e=>obtain ⟨et,u,_⟩:=p e rfl;exact ⟨_,u⟩
  | pair a b=>exact absurd rfl (r a b)
theorem Z8j (l:List Int) (r:ByteArray):l.foldl (λ(r:ByteArray) n=>r.push (UInt8.ofNat n.toNat)) r=⟨r.data++(l.map λn=>UInt8.ofNat n.toNat).toArray⟩:=by
 induction l generalizing r with
 | nil=>simp
 | cons n l b=>
  simp only [List.foldl_cons,b]
  congr 1
  simp [ByteArray.push]
theorem Z7L (I:Inv W0 M σ a w G xs) {x:Operand} {l:List Int} {tg:List Tag} (h:σ.look x=some ⟨.slice (.int .u8),false,l,tg⟩) {w2:World} (D:Z6h w G w2) :
  (a.eval x= .slice none 0 0/\l=[])\/∃ e cap,a.eval x= .slice e l.length cap/\(l=[]\/∃ b off,e=some ⟨b,off,none⟩/\∀ k (p:k<l.length),w2.cell? ((⟨b,off,none⟩:Addr).add k)=some (.int .u8 l[k])):=by
 obtain ⟨A,B⟩:=Z1q I h
 obtain ⟨t,e,cap,_,j,K,F⟩:=A
 rw [Z0q B] at j
 have J:a.eval x= .slice e (List.length (α:=Int) l) cap:=by simpa using j
 right
 refine ⟨e,cap,J,?_⟩
 rcases F with ⟨_,rfl,n,_⟩ | ⟨u,b,off,fps,i,f,q,_⟩ | ⟨u,_,n⟩
 ·exact .inl n
 ·cases q
 ·rcases n with n | ⟨b,off,i,m,C,E⟩
  ·exact .inl n
  ·refine .inr ⟨b,off,i,λk p=> ?_⟩
   obtain ⟨v,d,H⟩:=E k p
   simp only [size,Nat.mul_one] at d C
   have f:G.Al b:=by
    cases t with
    | S=>exact Ghost.St_Al I b m
    | N=>exact m
    | _=>cases u
   have:=D.1 b (Z0X d) f _ _ _ (by have:k<List.length (α:=Int) l:=p;omega) d
   have r:=Z21 this 0 (.int .u8 (List.get (α:=Int) l ⟨k,p⟩)) (by rw [H.1];rfl)
   have y:(⟨b,off+k,none⟩:Addr).add 0=⟨b,off+k,none⟩:=by simp [Addr.add]
   have z:(⟨b,off,none⟩:Addr).add k=⟨b,off+k,none⟩:=by unfold Addr.add;split<;>simp_all
   rw [y] at r
   rw [z]
   exact r
theorem Z7y (e:Z0e P tys) (I:Inv W0 M σ a w G xs) {s t:TypeId} {x:Operand} (z:o.op= .convert s t x) (h:Z0l tys σ o.op=some (g,tv)):Z5O P σ a w G o tv:=by
 rw [z] at h
 simp only [Z0l] at h
 split at h
 ·cases h
 rename_i d
 simp only [Bool.or_eq_true,not_or,Bool.not_eq_true] at d
 split at h
 ·rename_i k j K n _ v ht q
  simp only [Option.some.injEq,Prod.mk.injEq] at h
  obtain ⟨rfl,rfl⟩:=h
  have f:=Z0Q I q
  refine ⟨.int j (j.wrap n),Z0A rfl ⟨rfl,rfl,rfl⟩,λw2 _=> ?_⟩
  rw [Z03 z]
  simp [execOp,f,convert,run_underlying (Z5t e v d.1),run_underlying (Z5t e ht d.2),Conv.intToInt]
 ·rename_i b _ v ht q
  simp only [Option.some.injEq,Prod.mk.injEq] at h
  obtain ⟨rfl,rfl⟩:=h
  have f:=Z26 I q
  refine ⟨.string b,Z0A rfl ⟨rfl,rfl,rfl⟩,λw2 _=> ?_⟩
  rw [Z03 z]
  simp [execOp,f,convert,run_underlying (Z1I e v d.1),run_underlying (Z1I e ht d.2)]
 ·rename_i l _ v ht q
  simp only [Option.some.injEq,Prod.mk.injEq] at h
  obtain ⟨rfl,rfl⟩:=h
  obtain ⟨et,le,A,C,D⟩:=Z11 e v d.1
  obtain rfl:=D rfl
  have y:P.underlying et=some (.int .u8):=((e et _ _ C).und rfl).1 .u8 rfl
  refine ⟨.string (Z3B l),Z0A rfl ⟨rfl,rfl,rfl⟩,λw2 H=> ?_⟩
  rw [Z03 z]
  rcases Z7L I q H with ⟨f,p⟩ | ⟨B,cap,f,m⟩
  ·subst p
   simp [execOp,f,convert,run_underlying A,run_underlying (Z1I e ht d.2),run_underlying y,Conv.bytesToString,Z3B]
   rfl
  ·rcases m with p | ⟨b,off,rfl,m⟩
   ·subst p
    cases B with
    | none=>
     simp [execOp,f,convert,run_underlying A,run_underlying (Z1I e ht d.2),run_underlying y,Conv.bytesToString,Z3B]
     rfl
    | some B=>
     have:=run_bytesToString (P:=P) w2 B 0 cap [] (by simp [loadCells,loadCellsFrom])
     simp only [List.foldl_nil] at this
     simp [execOp,f,convert,run_underlying A,run_underlying (Z1I e ht d.2),run_underlying y,this,Z3B]
     rfl
   ·have r:=run_loadCells (P:=P) w2 ⟨b,off,none⟩ l.length (λj=> .int .u8 (l.getD j 0)) (λj E=>by
     rw [m j E,List.getD_eq_getElem?_getD,List.getElem?_eq_getElem E];rfl)
    have u:((List.range l.length).map λj=>Value.int .u8 (l.getD j 0))=l.map (Value.int .u8):=by
     apply List.ext_getElem
     ·simp
     ·intro i J F
      simp only [List.getElem_map,List.getElem_range]
      rw [List.getD_eq_getElem?_getD,List.getElem?_eq_getElem (by simpa using F)];rfl
    rw [u] at r
    have:=run_bytesToString (P:=P) w2 ⟨b,off,none⟩ l.length cap l r
    rw [Z8j] at this
    simp [execOp,f,convert,run_underlying A,run_underlying (Z1I e ht d.2),run_underlying y,this,Z3B]
 ·cases h
theorem Z3q (I:Inv W0 M σ a w G xs) {x:Operand} (k:o.op= .nilCheck x) (h:Z0l tys σ o.op=some (g,tv)):Z0O P σ a w G o tv:=by
 rw [k] at h
 simp only [Z0l] at h
 have d:=Z0v I x
 split at h
 ·rename_i p e
  rw [e] at d
  have d:=d (by simp)
  split at h
  ·rename_i m
   simp only [Option.some.injEq,Prod.mk.injEq] at h
   obtain ⟨rfl,rfl⟩:=h
   obtain ⟨u,n⟩:=Option.isSome_iff_exists.1 m
   obtain ⟨cs,b,l,j⟩:=d.2.2.2.some n
   refine ⟨a.eval x,d,λw2=> ?_⟩
   rw [Z03 k]
   simp [execOp,j]
  ·cases h
 ·rename_i v t e
  rw [e] at d
  have d:=d (by simp)
  simp only [Option.some.injEq,Prod.mk.injEq] at h
  obtain ⟨rfl,rfl⟩:=h
  have i:=d
  obtain ⟨_,_,b,off,cs,j,_⟩:=i
  refine ⟨a.eval x,d,λw2=> ?_⟩
  rw [Z03 k]
  simp [execOp,j]
 ·rename_i p e
  rw [e] at d
  have d:=d (by simp)
  split at h
  ·rename_i m
   simp only [Option.some.injEq,Prod.mk.injEq] at h
   obtain ⟨rfl,rfl⟩:=h
   obtain ⟨u,n⟩:=Option.isSome_iff_exists.1 m
   obtain ⟨cs,b,l,j⟩:=d.2.some n
   refine ⟨a.eval x,d,λw2=> ?_⟩
   rw [Z03 k]
   simp [execOp,j]
  ·cases h
 ·rename_i f y e
  rw [e] at d
  have d:=d (by simp)
  simp only [Option.some.injEq,Prod.mk.injEq] at h
  obtain ⟨rfl,rfl⟩:=h
  have i:=d
  obtain ⟨_,vs,j,_⟩:=i
  refine ⟨a.eval x,d,λw2=> ?_⟩
  rw [Z03 k]
  simp [execOp,j]
 ·rename_i r τ p e
  rw [e] at d
  have d:=d (by simp)
  simp only [Option.some.injEq,Prod.mk.injEq] at h
  obtain ⟨rfl,rfl⟩:=h
  have i:=d
  obtain ⟨_,_,b,q,z,j,_⟩:=i
  refine ⟨a.eval x,d,λw2=> ?_⟩
  rw [Z03 k]
  simp [execOp,j]
 ·rename_i f A v e
  rw [e] at d
  have d:=d (by simp)
  simp only [Option.some.injEq,Prod.mk.injEq] at h
  obtain ⟨rfl,rfl⟩:=h
  have i:=d
  obtain ⟨_,us,j,_⟩:=i
  refine ⟨a.eval x,d,λw2=> ?_⟩
  rw [Z03 k]
  simp [execOp,j]
 ·cases h
theorem Z7z (C:Z0e P tys) (I:Inv W0 M σ a w G xs) {c:Call} (q:o.op= .call c) (h:Z0l tys σ o.op=some (g,tv)):Z0O P σ a w G o tv:=by
 rw [q] at h
 simp only [Z0l] at h
 split at h
 ·rename_i x t d b i
  have p:c.args= #[x]:=by cases f:c.args;rw [f] at b;simp at b;rw [b]
  have r:c.argTypes= #[t]:=by cases f:c.argTypes;rw [f] at i;simp at i;rw [i]
  split at h
  ·rename_i s _ ht v
   split at h
   ·cases h
   rename_i j
   simp only [Option.some.injEq,Prod.mk.injEq] at h
   obtain ⟨rfl,rfl⟩:=h
   have z:=Z26 I v
   refine ⟨.int .i64 s.size,Z0A rfl ⟨rfl,rfl,rfl⟩,λw2=> ?_⟩
   rw [Z03 q]
   simp [execOp,resolve,d,p,r,z,invoke,builtin,Builtin.len_,run_underlying (Z1I C ht (by simpa using j)),goInt]
  ·rename_i H e l _ ht v
   split at h
   ·cases h
   rename_i j
   simp only [Option.some.injEq,Prod.mk.injEq] at h
   obtain ⟨rfl,rfl⟩:=h
   obtain ⟨F,cap,z,_⟩:=Z8t I v
   obtain ⟨et,le,D,_,_⟩:=Z11 C ht (by simpa using j)
   refine ⟨.int .i64 (List.length (α:=El e) l),Z0A rfl ⟨rfl,rfl,rfl⟩,λw2=> ?_⟩
   rw [Z03 q]
   simp [execOp,resolve,d,p,r,z,invoke,builtin,Builtin.len_,run_underlying D,goInt]
  ·cases h
 ·rename_i x y d b
  have p:c.args= #[x,y]:=by cases f:c.args;rw [f] at b;simp at b;rw [b]
  split at h
  ·rename_i k m _ E n _ A B
   split at h
   ·rename_i u
    subst u
    simp only [Option.some.injEq,Prod.mk.injEq] at h
    obtain ⟨rfl,rfl⟩:=h
    refine ⟨.int k (mxI m n),Z0A rfl ⟨rfl,rfl,rfl⟩,λw2=> ?_⟩
    rw [Z03 q]
    simp [execOp,resolve,d,p,Z0Q I A,Z0Q I B,invoke,builtin,Builtin.max_,Builtin.max2,mxI]
   ·cases h
  ·cases h
 ·rename_i x y d b
  have p:c.args= #[x,y]:=by cases f:c.args;rw [f] at b;simp at b;rw [b]
  split at h
  ·rename_i k m _ E n _ A B
   split at h
   ·rename_i u
    subst u
    simp only [Option.some.injEq,Prod.mk.injEq] at h
    obtain ⟨rfl,rfl⟩:=h
    refine ⟨.int k (mnI m n),Z0A rfl ⟨rfl,rfl,rfl⟩,λw2=> ?_⟩
    rw [Z03 q]
    simp [execOp,resolve,d,p,Z0Q I A,Z0Q I B,invoke,builtin,Builtin.min_,Builtin.min2,mnI]
   ·cases h
  ·cases h
 ·cases h
end
end Go.PI
namespace Go.PI
section
variable {W0:Base} {M:Nat->Prop} {σ:State} {a:Act} {w:World} {G:Ghost} {xs:List Nat} {P:Program} {tys:List (TypeId×Ty×List TypeId)} {o:Oper} {g:Bool} {tv:TV}
theorem Z3O (I:Inv W0 M σ a w G xs) {x:Operand} {v:TVal} {n:Int} (h:σ.look x=some v) (b:Z5m v=some n):∃ k,a.eval x= .int k n:=by
 unfold Z5m at b
 split at b
 ·cases b;exact ⟨_,Z0Q I h⟩
 ·cases b;exact ⟨_,Z0Q I h⟩
 ·cases b
theorem Z3P (I:Inv W0 M σ a w G xs) {x:Option Operand} {d n:Int} (h:Z5n σ x d=some n):(x.map a.eval=none/\n=d)\/∃ k,x.map a.eval=some (.int k n):=by
 unfold Z5n at h
 split at h
 ·cases h;exact .inl ⟨rfl,rfl⟩
 ·split at h
  ·rename_i o v e
   obtain ⟨k,b⟩:=Z3O I e h
   exact .inr ⟨k,by simp [b]⟩
  ·cases h
theorem Z6c {b:Bool} {len cap:Nat} {l e:Option Value} {i j:Int} (h:(l=none/\i=0)\/∃ k,l=some (.int k i)) (d:(e=none/\j=(len:Int))\/∃ k,e=some (.int k j))
  (r:0<=i) (u:i<=j) (v:j<=(len:Int)) (y:len<=cap) (w2:World):(Instr.sliceBounds b len cap l e none).run P w2= .ok (i.toNat,j.toNat,cap) w2:=by
 have m:0<=j/\j<=(cap:Int):=by omega
 have f:0<=i/\i<=((j.toNat:Nat):Int):=by omega
 have p:0<=j:=by omega
 have q:j<=(cap:Int):=by omega
 have n:i<=((j.toNat:Nat):Int):=by omega
 rcases h with ⟨rfl,rfl⟩ | ⟨k,rfl⟩<;>rcases d with ⟨rfl,rfl⟩ | ⟨z,rfl⟩
 ·simp [Instr.sliceBounds]
 ·simp only [Instr.sliceBounds,Instr.sliceBound,asIntOf,Sem.run_bind,Sem.run_pure,Result.andThen_ok]
  rw [if_pos m]
  simp
 ·have:0<=i/\i<=(len:Int):=by omega
  simp only [Instr.sliceBounds,Instr.sliceBound,asIntOf,Sem.run_bind,Sem.run_pure,Result.andThen_ok]
  rw [if_pos this]
  simp
 ·simp only [Instr.sliceBounds,Instr.sliceBound,asIntOf,Sem.run_bind,Sem.run_pure,Result.andThen_ok]
  rw [if_pos m]
  simp only [Sem.run_pure,Result.andThen_ok]
  rw [if_pos f]
  simp
theorem Z5l (b o n:Nat):(⟨b,o,none⟩:Addr).add n=⟨b,o+n,none⟩:=by unfold Addr.add;split<;>simp_all
theorem Z77 {i j:Int} {n:Nat} (h:Z8e i j n=true):0<=i/\i<=j/\j<=(n:Int):=by simpa [Z8e] using h
theorem Z5o {i:Int} {n:Nat} (h:inb i n=true):0<=i/\i<(n:Int):=by simpa [inb] using h
theorem Z8s {x:Operand} {v:TVal} (h:σ.look x=some v):∀ t∈v.tg,t.own=false:=by
 unfold State.look at h
 split at h
 ·rename_i u b
  cases h
  unfold State.peek at b
  split at b
  ·split at b
   ·rename_i t j f
    split at b
    ·cases b
    ·rename_i e
     cases b
     intro t ht
     cases i:t.own with
     | false=>rfl
     | true=>exact absurd (List.any_eq_true.2 ⟨t,ht,i⟩) e
   ·rename_i t d
    exact absurd b (d v)
  all_goals first | (cases b;simp [Z0z];done) | cases b
 ·rename_i p ag b
  obtain ⟨u,_,rfl⟩:=Option.map_eq_some_iff.1 h
  intro t ht
  simp only [TVal.alias,List.mem_map] at ht
  obtain ⟨t',_,rfl⟩:=ht
  cases t'<;>rfl
 ·cases h
theorem Z6f (L:Z0e P tys) (I:Inv W0 M σ a w G xs) {t:TypeId} {x:Operand} {lo hi mx:Option Operand} (q:o.op= .slice t x lo hi mx) (h:Z0l tys σ o.op=some (g,tv)) (hg:g=true) :
  Z0O P σ a w G o tv:=by
 rw [q] at h
 cases mx with
 | some m=>simp [Z0l] at h
 | none=>
 simp only [Z0l] at h
 split at h
 ·rename_i s tg ht D
  split at h
  ·cases h
  rename_i r
  split at h
  ·rename_i i j u v
   simp only [Option.some.injEq,Prod.mk.injEq] at h
   obtain ⟨n,rfl⟩:=h
   rw [hg] at n
   obtain ⟨J,K,y⟩:=Z77 n
   have hv:=Z26 I D
   refine ⟨.string (s.extract i.toNat j.toNat),Z0A rfl ⟨rfl,rfl,rfl⟩,λw2=> ?_⟩
   rw [Z03 q]
   have Q:=Z6c (P:=P) (b:=false) (cap:=s.size) (Z3P I u) (Z3P I v) J K y (Nat.le_refl _) w2
   simp only [execOp,hv,Instr.sliceAt,Instr.slice,Sem.run_bind,run_underlying (Z1I L ht (by simpa using r)),Result.andThen_ok,Option.map_none,Option.isSome_none,Bool.false_eq_true,if_false,Sem.run_pure,Q]
  ·cases h
 ·rename_i f e l tg ht D
  split at h
  ·rename_i hc
   obtain ⟨rfl,r⟩:=hc
   split at h
   ·rename_i i j u v
    simp only [Option.some.injEq,Prod.mk.injEq] at h
    obtain ⟨n,rfl⟩:=h
    rw [hg] at n
    obtain ⟨J,K,y⟩:=Z77 n
    have hr:Rp w G.F G.St G.Al (.slice f) tg (Z02 (a.eval x)) l []:=(Z1q I D).1
    have X:Z0f false (a.eval x):=(Z1q I D).2
    obtain ⟨t',E,cap,rfl,B,V,hh⟩:=hr
    rw [Z0q X] at B
    have hv:a.eval x= .slice E (List.length (α:=El f) l) cap:=by simpa using B
    obtain ⟨et,le,hu,T,_⟩:=Z11 L ht r
    obtain ⟨inf,z,C,Y,_⟩:=(L et _ _ T).info
    have d:(sub (α:=El f) l i j).length=j.toNat-i.toNat:=by
     unfold sub;simp;omega
    refine ⟨.slice (if cap=i.toNat then E else E.map (·.add (i.toNat * size f))) (j.toNat-i.toNat) (cap-i.toNat),⟨rfl,(show Rp w G.F G.St G.Al (.slice f) [t'] _ (sub (α:=El f) l i j) [] from ?_)⟩,λw2=> ?_⟩
    ·rw [Z0q rfl]
     rw [<-d]
     refine ⟨t',_,_,rfl,rfl,by rw [d];omega,?_⟩
     have p:t'.own=false:=by exact Z8s (σ:=σ) D t' (by simp)
     refine .inr (.inr ⟨p,rfl,?_⟩)
     rcases hh with ⟨q,_⟩ | ⟨q,_⟩ | ⟨_,_,hx⟩
     ·rw [p] at q;cases q
     ·rw [p] at q;cases q
     ·by_cases he:j.toNat-i.toNat=0
      ·left
       exact List.length_eq_zero_iff.1 (by rw [d];exact he)
      ·rcases hx with hx | ⟨b,off,rfl,Z,hF,U⟩
       ·rw [hx] at y;simp at y;omega
       ·right
        have R:¬ cap=i.toNat:=by omega
        refine ⟨b,off+i.toNat * size f,by rw [if_neg R];simp [Z5l],Z,?_,λk hk=> ?_⟩
        ·rw [d]
         have:i.toNat * size f+(j.toNat-i.toNat) * size f<=List.length (α:=El f) l * size f:=by
          rw [<-Nat.add_mul];exact Nat.mul_le_mul_right _ (by omega)
         omega
        ·rw [d] at hk
         obtain ⟨H,A,W⟩:=U (i.toNat+k) (by omega)
         refine ⟨H,?_,?_⟩
         ·rw [Nat.add_mul] at A
          rw [Nat.add_assoc];exact A
         ·have:List.get (α:=El f) (sub (α:=El f) l i j) ⟨k,by rw [d];exact hk⟩=List.get (α:=El f) l ⟨i.toNat+k,by omega⟩:=by
           unfold sub
           simp
          rw [this]
          exact W
    ·rw [Z03 q]
     have Q:=Z6c (P:=P) (b:=true) (cap:=cap) (Z3P I u) (Z3P I v) J K y V w2
     simp only [execOp,hv,Instr.sliceAt,Instr.slice,Sem.run_bind,run_underlying hu,Result.andThen_ok,Option.map_none,Sem.run_pure,Q,sizeOf,typeInfo,run_program,C,Y]
   ·cases h
  ·cases h
 ·cases h
end
end Go.PI
namespace Go.PI
theorem Z2I:(p q:List Step)->Z08 (p++q)=(Z08 p&&Z08 q)
 | [],q=>by simp [Z08]
 | .fst::p,q=>by simp [Z08,Z2I p q]
 | .snd::p,q=>by simp [Z08,Z2I p q]
 | .idx _::p,q=>by simp [Z08]
theorem Z2P:(n i:Nat)->Z08 (Z0a n i)=true
 | 0,_=>rfl
 | 1,_=>rfl
 | n+2,0=>rfl
 | n+2,i+1=>by simp only [Z0a,Z08];exact Z2P (n+1) i
theorem Z6m:{p:List Step}->{τ:Ty}->{x:El τ}->{tg:List Tag}->{u:TVal}->Z04 τ x tg p=some u->u.ag=false
 | [],τ,x,tg,u,h=>by cases τ<;>(simp only [Z04,Option.some.injEq] at h;subst h;rfl)
 | .fst::p,.pair a b,x,tg,u,h=>Z6m (p:=p) h
 | .snd::p,.pair a b,x,tg,u,h=>Z6m (p:=p) h
 | .idx i::p,.slice e,x,tg,u,h=>Z6m (p:=p) h
 | .fst::_,.int _,_,_,_,h=>by simp [Z04] at h
 | .fst::_,.bool,_,_,_,h=>by simp [Z04] at h
 | .fst::_,.str,_,_,_,h=>by simp [Z04] at h
 | .fst::_,.unit,_,_,_,h=>by simp [Z04] at h
 | .fst::_,.slice _,_,_,_,h=>by simp [Z04] at h
 | .snd::_,.int _,_,_,_,h=>by simp [Z04] at h
 | .snd::_,.bool,_,_,_,h=>by simp [Z04] at h
 | .snd::_,.str,_,_,_,h=>by simp [Z04] at h
 | .snd::_,.unit,_,_,_,h=>by simp [Z04] at h
 | .snd::_,.slice _,_,_,_,h=>by simp [Z04] at h
 | .idx _::_,.int _,_,_,_,h=>by simp [Z04] at h
 | .idx _::_,.bool,_,_,_,h=>by simp [Z04] at h
 | .idx _::_,.str,_,_,_,h=>by simp [Z04] at h
 | .idx _::_,.unit,_,_,_,h=>by simp [Z04] at h
 | .idx _::_,.pair _ _,_,_,_,h=>by simp [Z04] at h
theorem Z3I {τ:Ty} {x:El τ} {tg:List Tag}:Z04 τ x tg []=some ⟨τ,false,x,tg⟩:=by cases τ<;>rfl
theorem Z32:{p q:List Step}->{τ:Ty}->{x:El τ}->{tg:List Tag}->{u:TVal}->Z04 τ x tg p=some u->Z04 τ x tg (p++q)=Z04 u.τ u.x u.tg q
 | [],q,τ,x,tg,u,h=>by rw [Z3I] at h;cases h;rfl
 | .fst::p,q,.pair a b,x,tg,u,h=>Z32 (p:=p) h
 | .snd::p,q,.pair a b,x,tg,u,h=>Z32 (p:=p) h
 | .idx i::p,q,.slice e,x,tg,u,h=>Z32 (p:=p) h
 | .fst::_,_,.int _,_,_,_,h=>by simp [Z04] at h
 | .fst::_,_,.bool,_,_,_,h=>by simp [Z04] at h
 | .fst::_,_,.str,_,_,_,h=>by simp [Z04] at h
 | .fst::_,_,.unit,_,_,_,h=>by simp [Z04] at h
 | .fst::_,_,.slice _,_,_,_,h=>by simp [Z04] at h
 | .snd::_,_,.int _,_,_,_,h=>by simp [Z04] at h
 | .snd::_,_,.bool,_,_,_,h=>by simp [Z04] at h
 | .snd::_,_,.str,_,_,_,h=>by simp [Z04] at h
 | .snd::_,_,.unit,_,_,_,h=>by simp [Z04] at h
 | .snd::_,_,.slice _,_,_,_,h=>by simp [Z04] at h
 | .idx _::_,_,.int _,_,_,_,h=>by simp [Z04] at h
 | .idx _::_,_,.bool,_,_,_,h=>by simp [Z04] at h
 | .idx _::_,_,.str,_,_,_,h=>by simp [Z04] at h
 | .idx _::_,_,.unit,_,_,_,h=>by simp [Z04] at h
 | .idx _::_,_,.pair _ _,_,_,_,h=>by simp [Z04] at h
theorem Z35 {w:World}:{p q:List Step}->{τ:Ty}->{cs j:List Value}->{base d:Option (Nat×Nat)}->{x:El τ}->{tg:List Tag}->{u:TVal} ->
  Z00 w τ cs base p=some (j,d)->Z04 τ x tg p=some u->Z00 w τ cs base (p++q)=Z00 w u.τ j d q
 | [],q,τ,cs,j,base,d,x,tg,u,f,k=>by
  rw [Z3I] at k;cases k
  rw [Z0P] at f;cases f;rfl
 | .fst::p,q,.pair a b,cs,j,base,d,x,tg,u,f,k=>Z35 (p:=p) (τ:=a) f k
 | .snd::p,q,.pair a b,cs,j,base,d,x,tg,u,f,k=>Z35 (p:=p) (τ:=b) f k
 | .idx i::p,q,.slice e,cs,j,base,d,x,tg,u,f,k=>by
  simp only [List.cons_append,Z00] at f ⊢
  split at f
  ·rename_i b o len cap
   split at f
   ·rename_i n
    split at f
    ·rename_i l m
     simp only [n,if_true]
     exact Z35 (p:=p) f k
    ·cases f
   ·cases f
  ·cases f
 | .fst::_,_,.int _,_,_,_,_,_,_,_,_,h=>by simp [Z04] at h
 | .fst::_,_,.bool,_,_,_,_,_,_,_,_,h=>by simp [Z04] at h
 | .fst::_,_,.str,_,_,_,_,_,_,_,_,h=>by simp [Z04] at h
 | .fst::_,_,.unit,_,_,_,_,_,_,_,_,h=>by simp [Z04] at h
 | .fst::_,_,.slice _,_,_,_,_,_,_,_,_,h=>by simp [Z04] at h
 | .snd::_,_,.int _,_,_,_,_,_,_,_,_,h=>by simp [Z04] at h
 | .snd::_,_,.bool,_,_,_,_,_,_,_,_,h=>by simp [Z04] at h
 | .snd::_,_,.str,_,_,_,_,_,_,_,_,h=>by simp [Z04] at h
 | .snd::_,_,.unit,_,_,_,_,_,_,_,_,h=>by simp [Z04] at h
 | .snd::_,_,.slice _,_,_,_,_,_,_,_,_,h=>by simp [Z04] at h
 | .idx _::_,_,.int _,_,_,_,_,_,_,_,_,h=>by simp [Z04] at h
 | .idx _::_,_,.bool,_,_,_,_,_,_,_,_,h=>by simp [Z04] at h
 | .idx _::_,_,.str,_,_,_,_,_,_,_,_,h=>by simp [Z04] at h
 | .idx _::_,_,.unit,_,_,_,_,_,_,_,_,h=>by simp [Z04] at h
 | .idx _::_,_,.pair _ _,_,_,_,_,_,_,_,_,h=>by simp [Z04] at h
theorem Z4a:{p:List Step}->{τ d:Ty}->Z0d τ p=some d->∀ q,Z0d τ (p++q)=Z0d d q
 | [],τ,d,h,q=>by rw [Z1G] at h;cases h;rfl
 | .fst::p,.pair a b,d,h,q=>Z4a (p:=p) (τ:=a) h q
 | .snd::p,.pair a b,d,h,q=>Z4a (p:=p) (τ:=b) h q
 | .idx _::_,.pair _ _,_,h,q=>by simp [Z0d] at h
 | s::_,.int _,_,h,q=>by cases s<;>simp [Z0d] at h
 | s::_,.bool,_,h,q=>by cases s<;>simp [Z0d] at h
 | s::_,.str,_,h,q=>by cases s<;>simp [Z0d] at h
 | s::_,.unit,_,h,q=>by cases s<;>simp [Z0d] at h
 | s::_,.slice _,_,h,q=>by cases s<;>simp [Z0d] at h
theorem Z47:{p:List Step}->{τ d:Ty}->Z0d τ p=some d->∀ q,Z0g τ (p++q)=Z0g τ p+Z0g d q
 | [],τ,d,h,q=>by rw [Z1G] at h;cases h;rw [Z4D];simp
 | .fst::p,.pair a b,d,h,q=>Z47 (p:=p) (τ:=a) h q
 | .snd::p,.pair a b,d,h,q=>by
  have:=Z47 (p:=p) (τ:=b) h q
  simp only [List.cons_append,Z0g,this,Nat.add_assoc]
 | .idx _::_,.pair _ _,_,h,q=>by simp [Z0d] at h
 | s::_,.int _,_,h,q=>by cases s<;>simp [Z0d] at h
 | s::_,.bool,_,h,q=>by cases s<;>simp [Z0d] at h
 | s::_,.str,_,h,q=>by cases s<;>simp [Z0d] at h
 | s::_,.unit,_,h,q=>by cases s<;>simp [Z0d] at h
 | s::_,.slice _,_,h,q=>by cases s<;>simp [Z0d] at h
theorem Z74 {w:World} {b o n i m:Nat} {cs:List Value} (h:Z05 w b o n=some cs) (d:i+m<=n):Z05 w b (o+i) m=some ((cs.drop i).take m):=by
 unfold Z05 at *
 split at h
 ·split at h
  ·cases h
   rw [if_pos (by omega),List.drop_take,List.drop_drop,List.take_take]
   congr 2
   omega
  ·cases h
 ·cases h
theorem Z3c:{q:List Step}->{τ d:Ty}->{x:El τ}->{tg:List Tag}->Z0d τ q=some d->∃ u,Z04 τ x tg q=some u/\u.τ=d
 | [],τ,d,x,tg,h=>by rw [Z1G] at h;cases h;exact ⟨_,Z3I,rfl⟩
 | .fst::p,.pair a b,d,x,tg,h=>Z3c (q:=p) (τ:=a) h
 | .snd::p,.pair a b,d,x,tg,h=>Z3c (q:=p) (τ:=b) h
 | .idx _::_,.int _,_,_,_,h=>by simp [Z0d] at h
 | .idx _::_,.bool,_,_,_,h=>by simp [Z0d] at h
 | .idx _::_,.str,_,_,_,h=>by simp [Z0d] at h
 | .idx _::_,.unit,_,_,_,h=>by simp [Z0d] at h
 | .idx _::_,.slice _,_,_,_,h=>by simp [Z0d] at h
 | .idx _::_,.pair _ _,_,_,_,h=>by simp [Z0d] at h
 | .fst::_,.int _,_,_,_,h=>by simp [Z0d] at h
 | .fst::_,.bool,_,_,_,h=>by simp [Z0d] at h
 | .fst::_,.str,_,_,_,h=>by simp [Z0d] at h
 | .fst::_,.unit,_,_,_,h=>by simp [Z0d] at h
 | .fst::_,.slice _,_,_,_,h=>by simp [Z0d] at h
 | .snd::_,.int _,_,_,_,h=>by simp [Z0d] at h
 | .snd::_,.bool,_,_,_,h=>by simp [Z0d] at h
 | .snd::_,.str,_,_,_,h=>by simp [Z0d] at h
 | .snd::_,.unit,_,_,_,h=>by simp [Z0d] at h
 | .snd::_,.slice _,_,_,_,h=>by simp [Z0d] at h
section
variable {W0:Base} {M:Nat->Prop} {σ:State} {a:Act} {w:World} {G:Ghost} {xs:List Nat} {P:Program} {tys:List (TypeId×Ty×List TypeId)} {o:Oper} {g:Bool} {tv:TV}
theorem Z6M (d:Z0e P tys) {t:TypeId} {τ:Ty} {l:List TypeId} (h:Z0o tys t=some (τ,l)) (w2:World):(isAgg t).run P w2= .ok (!l.isEmpty) w2:=by
 cases l with
 | cons c l=>
  obtain ⟨u,r,_⟩:=(d t _ _ h).str (by simp)
  simp [isAgg,run_underlying r]
 | nil=>
  obtain ⟨f,i,j,m,n,p⟩:=(d t _ _ h).und rfl
  cases τ with
  | int k=>simp [isAgg,run_underlying (f k rfl)]
  | bool=>simp [isAgg,run_underlying (i rfl)]
  | str=>simp [isAgg,run_underlying (j rfl)]
  | unit=>exact absurd rfl n
  | slice e=>obtain ⟨et,q,_⟩:=m e rfl;simp [isAgg,run_underlying q]
  | pair a b=>exact absurd rfl (p a b)
theorem Z1M (n:Z0e P tys) {t:TypeId} {τ:Ty} {i:Nat} {q:List Step} (e:Z4e tys t i=some q) (ht:Z0y tys t=some τ) :
  ∃ j f h k b,P.underlying t=some (.struct j)/\j[i]? = some f/\f.offset=Z0g τ q/\Z0d τ q=some h/\Z0o tys f.type=some (h,k)/\P.info? f.type=some b/\b.size=size h/\size h≠0 /\
   Z08 q=true/\Z2x tys t i= !k.isEmpty:=by
 obtain ⟨l,d,E⟩:=Z0R ht
 unfold Z4e at e
 rw [d] at e
 simp only [] at e
 split at e
 ·rename_i p
  cases e
  have H:l≠[]:=by rintro rfl;simp at p
  obtain ⟨j,I,r,F,_⟩:=(n t _ _ d).str H
  obtain ⟨f,h,k,u,v,y,A,m,B,_⟩:=(F i p).out
  obtain ⟨b,z,C,D,_⟩:=(n _ _ _ m).info
  refine ⟨j,f,h,k,b,I,u,y,A,m,C,D,B,Z2P _ _,?_⟩
  unfold Z2x
  rw [d]
  simp only []
  rw [<-v]
  simp [agOf,m]
 ·cases e
theorem Z0B.ext {p:Place} {u:TVal} {cs f:List Value} {base d:Option (Nat×Nat)} {q:List Step} (m:σ.getAt p=some u) (h:Z0B σ G a w p cs base)
  (n:Z00 w u.τ cs base q=some (f,d)):Z0B σ G a w { p with path:=p.path++q } f d:=by
 obtain ⟨c,k,i⟩:=Z0C m
 obtain ⟨τ,l,b,e,r,j⟩:=h
 have:τ=c.τ:=by rw [State.ct,k] at e;simpa using e.symm
 subst this
 refine ⟨c.τ,l,b,e,r,?_⟩
 rw [Z35 j i]
 exact n
theorem Z9V {p:Place} {u:TVal} {q:List Step} (e:σ.getAt p=some u):σ.getAt { p with path:=p.path++q }=Z04 u.τ u.x u.tg q:=by
 obtain ⟨c,d,b⟩:=Z0C e
 show ((σ.content p).bind λv=>Z04 v.τ v.x v.tg (p.path++q))=_
 rw [d]
 exact Z32 b
theorem Z37 (l:Z0e P tys) {t:TypeId} {τ:Ty} {i:Nat} {q:List Step} (n:Z4e tys t i=some q) (ht:Z0y tys t=some τ) (b o:Nat) (w2:World) :
  (Instr.fieldAt t (.pointer (some ⟨b,o,none⟩)) i).run P w2= .ok (.pointer (some ⟨b,o+Z0g τ q,none⟩)) w2:=by
 obtain ⟨r,f,v,u,k,p,m,e,_,_,d,j,h,_⟩:=Z1M l n ht
 have:¬ (k.size=0):=by rw [j];exact h
 simp [Instr.fieldAt,run_underlying p,m,Instr.sureAddr,fieldPlace,sizeOf,typeInfo,d,this,Z5l,e]
theorem Z4Z:{q:List Step}->{τ:Ty}->{x:El τ}->{tg:List Tag}->{u:TVal}->Z04 τ x tg q=some u->Z08 q=true->∀ t∈u.tg,t∈tg
 | [],τ,x,tg,u,h,_=>by rw [Z3I] at h;cases h;exact λt ht=>ht
 | .fst::p,.pair a b,x,tg,u,h,d=>λt ht=>List.mem_of_mem_take (Z4Z (q:=p) (τ:=a) h d t ht)
 | .snd::p,.pair a b,x,tg,u,h,d=>λt ht=>List.mem_of_mem_drop (Z4Z (q:=p) (τ:=b) h d t ht)
 | .idx _::_,_,_,_,_,_,d=>by simp [Z08] at d
 | .fst::_,.int _,_,_,_,h,_=>by simp [Z04] at h
 | .fst::_,.bool,_,_,_,h,_=>by simp [Z04] at h
 | .fst::_,.str,_,_,_,h,_=>by simp [Z04] at h
 | .fst::_,.unit,_,_,_,h,_=>by simp [Z04] at h
 | .fst::_,.slice _,_,_,_,h,_=>by simp [Z04] at h
 | .snd::_,.int _,_,_,_,h,_=>by simp [Z04] at h
 | .snd::_,.bool,_,_,_,h,_=>by simp [Z04] at h
 | .snd::_,.str,_,_,_,h,_=>by simp [Z04] at h
 | .snd::_,.unit,_,_,_,h,_=>by simp [Z04] at h
 | .snd::_,.slice _,_,_,_,h,_=>by simp [Z04] at h
theorem Z2W (D:Z0e P tys) (I:Inv W0 M σ a w G xs) {t:TypeId} {x:Operand} {i:Nat} (Y:o.op= .fieldAddr t x i) (h:Z0l tys σ o.op=some (g,tv)):Z0O P σ a w G o tv:=by
 rw [Y] at h
 simp only [Z0l] at h
 have F:=Z0v I x
 split at h
 ·rename_i q p B j
  rw [j] at F
  obtain ⟨_,hbx,H,Q⟩:=F (by simp)
  split at h
  ·rename_i u T
   split at h
   ·rename_i ht
    simp only [Option.some.injEq,Prod.mk.injEq] at h
    obtain ⟨rfl,rfl⟩:=h
    obtain ⟨cs,b,A,U⟩:=Q.some T
    obtain ⟨fs,f,τf,lf,V,C,hf,z,d,_,m,R,L,k,_⟩:=Z1M D B ht
    obtain ⟨n,y⟩:=Z0U (w:=w) (cs:=cs) (base:=some b) d (Z1L I T A).1
    refine ⟨.pointer (some ⟨b.1,b.2+Z0g u.τ q,none⟩),⟨rfl,hbx,by simp only [Z2I,H,k,Bool.and_self],.inr ⟨_,_,A.ext T n,rfl⟩⟩,λw2=> ?_⟩
    rw [Z03 Y]
    simp only [execOp,U,Sem.run_bind,Z37 D B ht,Result.andThen_ok,Sem.run_pure]
   ·cases h
  ·cases h
 ·rename_i q p B j
  rw [j] at F
  obtain ⟨_,Q⟩:=F (by simp)
  split at h
  ·rename_i u T
   split at h
   ·rename_i ht
    simp only [Option.some.injEq,Prod.mk.injEq] at h
    obtain ⟨rfl,rfl⟩:=h
    obtain ⟨cs,b,A,U⟩:=Q.some T
    obtain ⟨fs,f,τf,lf,V,C,hf,z,d,_,m,R,L,k,_⟩:=Z1M D B ht
    obtain ⟨n,y⟩:=Z0U (w:=w) (cs:=cs) (base:=some b) d (Z1L I T A).1
    refine ⟨.pointer (some ⟨b.1,b.2+Z0g u.τ q,none⟩),⟨rfl,.inr ⟨_,_,A.ext T n,rfl⟩⟩,λw2=> ?_⟩
    rw [Z03 Y]
    simp only [execOp,U,Sem.run_bind,Z37 D B ht,Result.andThen_ok,Sem.run_pure]
   ·cases h
  ·cases h
 ·rename_i q v tg B j
  rw [j] at F
  obtain ⟨_,hto,b,off,cs,U,e,htb,hF,hN,hr⟩:=F (by simp)
  split at h
  ·rename_i ht
   obtain ⟨u,J,he⟩:=Option.map_eq_some_iff.1 h
   simp only [Prod.mk.injEq] at he
   obtain ⟨rfl,rfl⟩:=he
   obtain ⟨fs,f,τf,lf,V,C,hf,z,d,_,m,R,L,k,_⟩:=Z1M D B ht
   obtain ⟨n,y⟩:=Z0U (w:=w) (cs:=cs) (base:=(none:Option (Nat×Nat))) d hr.len.1
   obtain ⟨u',Z,aa⟩:=Z3c (x:=v.x) (tg:=v.tg) d
   rw [J] at Z
   cases Z
   obtain ⟨W,hru,hfp⟩:=hr.get n J
   have X:W=[]:=by cases W with | nil=>rfl | cons c l=>exact absurd (hfp c (by simp)) (by simp)
   subst X
   refine ⟨.pointer (some ⟨b,off+Z0g v.τ q,none⟩),⟨rfl,hto,b,off+Z0g v.τ q,_,rfl,?_,htb,by rw [aa];omega,λhn=> ?_,hru⟩,λw2=> ?_⟩
   ·rw [aa];exact Z31 e y
   ·have:=hN hn
    intro t' ht'
    exact this t' (Z4Z J k t' ht')
   ·rw [Z03 Y]
    simp only [execOp,U,Sem.run_bind,Z37 D B ht,Result.andThen_ok,Sem.run_pure]
  ·cases h
 ·rename_i q r τr p B j
  rw [j] at F
  obtain ⟨_,H,b,off,τ2,U,d,hlr,e,hSt,hF⟩:=F (by simp)
  split at h
  ·rename_i ht
   simp only [Option.some.injEq,Prod.mk.injEq] at h
   obtain ⟨rfl,rfl⟩:=h
   rw [d] at ht
   obtain ⟨fs,f,τf,lf,V,C,hf,z,E,_,m,R,L,k,_⟩:=Z1M D B ht
   have K:=Z1D e
   obtain ⟨_,y⟩:=Z0U (w:=w) (cs:=((Z02 (a.tmps.getD r undef)).drop (Z0g τr p)).take (size τ2)) (base:=none) E K
   refine ⟨.pointer (some ⟨b,off+Z0g τ2 q,none⟩),⟨rfl,by simp only [Z2I,H,k,Bool.and_self],b,off+Z0g τ2 q,τf,rfl,(Z4a d q).trans E,hlr,?_,hSt,by omega⟩,λw2=> ?_⟩
   ·rw [Z74 e y,Z47 d q,List.drop_take,List.take_take,List.drop_drop]
    congr 2
    omega
   ·rw [Z03 Y]
    simp only [execOp,U,Sem.run_bind,Z37 D B ht,Result.andThen_ok,Sem.run_pure]
  ·cases h
 ·cases h
end
end Go.PI
namespace Go.PI
theorem Z4O (cs:Array Value) (i n:Nat):(cs.extract i (i+n)).toList=(cs.toList.drop i).take n:=by
 simp [Array.toList_extract,List.extract_eq_take_drop]
section
variable {W0:Base} {M:Nat->Prop} {σ:State} {a:Act} {w:World} {G:Ghost} {xs:List Nat} {P:Program} {tys:List (TypeId×Ty×List TypeId)} {o:Oper} {g:Bool} {tv:TV}
theorem Z1T (e:Z0e P tys) {t:TypeId} {τ:Ty} (h:Z0o tys t=some (τ,[])):size τ=1:=by
 obtain ⟨_,_,_,_,b,d⟩:=(e t _ _ h).und rfl
 cases τ<;>first | rfl | (exact absurd rfl b) | (exact absurd rfl (d _ _))
theorem Z2U (b:Z0e P tys) {t:TypeId} {τ:Ty} {l:List TypeId} (h:Z0o tys t=some (τ,l)) {cs:Array Value} {off:Nat} (k:off+size τ<=cs.size) (w2:World) :
  (part t cs off).run P w2= .ok (Z0K (!l.isEmpty) ((cs.toList.drop off).take (size τ))) w2:=by
 obtain ⟨j,z,f,i,_⟩:=(b t _ _ h).info
 cases l with
 | cons c l=>
  simp only [part,Sem.run_bind,Z6M b h,Result.andThen_ok,List.isEmpty_cons,Bool.not_false,if_true,sizeOf,typeInfo,run_program,f,Sem.run_pure,i,Z0K]
  congr 2
  rw [<-Array.toList_inj]
  simp [Z4O]
 | nil=>
  have d:=Z1T b h
  simp only [part,Sem.run_bind,Z6M b h,Result.andThen_ok,List.isEmpty_nil,Bool.not_true,Bool.false_eq_true,if_false,Z0K]
  have:off<cs.size:=by omega
  rw [Array.getElem?_eq_getElem this]
  simp only [Sem.run_pure]
  congr 1
  rw [d]
  have e:off<cs.toList.length:=by simpa using this
  rw [List.drop_eq_getElem_cons e]
  simp
theorem Z6d (D:Z0e P tys) (I:Inv W0 M σ a w G xs) {t:TypeId} {x:Operand} {i:Nat} (ho:o.op= .field t x i) (h:Z0l tys σ o.op=some (g,tv)):Z0O P σ a w G o tv:=by
 rw [ho] at h
 simp only [Z0l] at h
 have W:=Z0v I x
 split at h
 ·rename_i q p hq C
  rw [C] at W
  obtain ⟨_,e⟩:=W (by simp)
  split at h
  ·rename_i u hu
   split at h
   ·rename_i ht
    obtain ⟨tv',hrt,H⟩:=Option.map_eq_some_iff.1 h
    simp only [Prod.mk.injEq] at H
    obtain ⟨rfl,rfl⟩:=H
    have e:∃ cs base,Z0B σ G a w p cs base/\Z02 (a.eval x)=cs/\Z0f true (a.eval x):=by
     rcases e with hn | e
     ·obtain ⟨c,Y,_⟩:=Z0C hu
      rw [State.ct,Y] at hn;cases hn
     ·exact e
    obtain ⟨cs,base,e,hvc,b,U⟩:=e
    obtain ⟨fs,f,V,lf,inf,n,z,m,r,j,L,hsz,hne,hqf,d⟩:=Z1M D hq ht
    obtain ⟨A,Q⟩:=Z1L I hu e
    obtain ⟨B,hle⟩:=Z0U (w:=w) (cs:=cs) (base:=base) r A
    have v:cs=b.toList:=by rw [<-hvc,U];simp [Z02,Value.cells]
    have F:b.size=size u.τ:=by rw [<-A,v];simp
    have k:=Z1h (ag:=Z2x tys t i) (cs:=(cs.drop (Z0g u.τ q)).take (size V)) (λc Y=>Q c (List.mem_of_mem_drop (List.mem_of_mem_take Y))) (λz=>by
     rw [d] at z
     have hl:lf=[]:=by simpa using z
     subst hl
     have:=Z1T D j
     simp;omega)
    refine ⟨Z0K (Z2x tys t i) ((cs.drop (Z0g u.τ q)).take (size V)),Z2z I hrt (e.ext hu B) k.1 k.2,λw2=> ?_⟩
    rw [Z03 ho]
    simp only [execOp,U,Instr.field,Sem.run_bind,run_underlying n,z,asAgg,Sem.run_pure,Result.andThen_ok,m,Z2U D j (cs:=b) (off:=Z0g u.τ q) (by omega) w2,d,v]
   ·cases h
  ·cases h
 ·rename_i q τ y tg hq C
  rw [C] at W
  obtain ⟨⟨b,U⟩,X⟩:=W (by simp)
  split at h
  ·rename_i ht
   obtain ⟨u,K,H⟩:=Option.map_eq_some_iff.1 h
   simp only [Prod.mk.injEq] at H
   obtain ⟨rfl,rfl⟩:=H
   obtain ⟨fs,f,V,lf,inf,n,z,m,r,j,L,hsz,hne,hqf,d⟩:=Z1M D hq ht
   have v:Z02 (a.eval x)=b.toList:=by rw [U];simp [Z02,Value.cells]
   rw [v] at X
   obtain ⟨B,hle⟩:=Z0U (w:=w) (cs:=b.toList) (base:=(none:Option (Nat×Nat))) r X.len.1
   obtain ⟨u',T,hut⟩:=Z3c (x:=y) (tg:=tg) r
   rw [K] at T
   cases T
   obtain ⟨E,R,Z⟩:=X.get B K
   have J:E=[]:=by cases E with | nil=>rfl | cons c l=>exact absurd (Z c (by simp)) (by simp)
   subst J
   have F:b.size=size τ:=by have:=X.len.1;simpa using this
   have k:=Z1h (ag:=Z2x tys t i) (cs:=(b.toList.drop (Z0g τ q)).take (size V)) R.ones (λz=>by
     rw [d] at z
     have hl:lf=[]:=by simpa using z
     subst hl
     have:=Z1T D j
     simp;omega)
   refine ⟨Z0K (Z2x tys t i) ((b.toList.drop (Z0g τ q)).take (size V)),⟨k.2,by rw [k.1];exact R⟩,λw2=> ?_⟩
   rw [Z03 ho]
   simp only [execOp,U,Instr.field,Sem.run_bind,run_underlying n,z,asAgg,Sem.run_pure,Result.andThen_ok,m,Z2U D j (cs:=b) (off:=Z0g τ q) (by omega) w2,d]
  ·cases h
 ·cases h
theorem Z5C (l:Z0e P tys) {t:TypeId} {e:Ty} (ht:Z0y tys t=some (.slice e)) (f:agOf tys t=false) {b off len cap:Nat} {k:IntKind} {n:Int} (h:inb n len=true) (w2:World) :
  (Instr.indexAt t (.slice (some ⟨b,off,none⟩) len cap) (.int k n)).run P w2= .ok (.pointer (some ⟨b,off+n.toNat * size e,none⟩)) w2:=by
 obtain ⟨et,le,m,i,_⟩:=Z11 l ht f
 obtain ⟨p,z,d,j,_⟩:=(l et _ _ i).info
 simp only [Instr.indexAt,asIntOf,Sem.run_bind,Sem.run_pure,Result.andThen_ok,run_underlying m,if_pos (Z5o h),sizeOf,typeInfo,run_program,d,j,Z5l]
theorem Z2X (hT:Z0e P tys) (I:Inv W0 M σ a w G xs) {t:TypeId} {x i:Operand} (W:o.op= .indexAddr t x i) (h:Z0l tys σ o.op=some (g,tv)) (hg:g=true):Z0O P σ a w G o tv:=by
 rw [W] at h
 simp only [Z0l] at h
 have Q:=Z0v I x
 split at h
 ·rename_i f p nv ht C B
  rw [C] at Q
  obtain ⟨_,m⟩:=Q (by simp)
  split at h
  ·rename_i e ag' l tg n hu H
   split at h
   ·rename_i J
    obtain ⟨rfl,A⟩:=J
    simp only [Option.some.injEq,Prod.mk.injEq] at h
    obtain ⟨r,rfl⟩:=h
    rw [hg] at r
    obtain ⟨h0,h1⟩:=Z5o r
    have m:∃ cs base,Z0B σ G a w p cs base/\Z02 (a.eval x)=cs/\Z0f false (a.eval x):=by
     rcases m with H | m
     ·obtain ⟨c,J,_⟩:=Z0C hu
      rw [State.ct,J] at H;cases H
     ·exact m
    obtain ⟨cs,base,m,E,z⟩:=m
    obtain ⟨fp,D⟩:=Z2u I hu m
    have D:Rp w G.F G.St G.Al (.slice f) tg cs l fp:=D
    obtain ⟨t',L,cap,rfl,v,V,T⟩:=D
    have hv:a.eval x= .slice L (List.length (α:=El f) l) cap:=by
     rw [Z0q z] at E
     rw [v] at E
     simpa using E
    obtain ⟨k,U⟩:=Z3O I B H
    have d:n.toNat<List.length (α:=El f) l:=by omega
    have R:∃ b off,L=some ⟨b,off,none⟩/\∃ j,Z05 w b (off+n.toNat * size f) (size f)=some j:=by
     rcases T with ⟨_,_,u,_⟩ | ⟨_,b,off,fps,rfl,_,_,_,_,_,y⟩ | ⟨_,_,u⟩
     ·rw [u] at d;simp at d
     ·obtain ⟨j,q,_⟩:=y n.toNat d
      exact ⟨b,off,rfl,j,q⟩
     ·rcases u with u | ⟨b,off,rfl,_,_,y⟩
      ·rw [u] at d;simp at d
      ·obtain ⟨j,q,_⟩:=y n.toNat d
       exact ⟨b,off,rfl,j,q⟩
    obtain ⟨b,off,rfl,j,q⟩:=R
    refine ⟨.pointer (some ⟨b,off+n.toNat * size f,none⟩),⟨rfl,.inr ⟨j,(b,off+n.toNat * size f),m.ext hu ?_,rfl⟩⟩,λw2=> ?_⟩
    ·rw [v]
     simp only [Z00,d,if_true,q,Z0P]
    ·rw [Z03 W]
     simp only [execOp,hv,U,Sem.run_bind,Z5C hT ht A r,Result.andThen_ok,Sem.run_pure]
   ·cases h
  ·cases h
 ·rename_i f e l tg nv ht C B
  rw [C] at Q
  split at h
  ·rename_i n H
   split at h
   ·rename_i J
    obtain ⟨rfl,A⟩:=J
    simp only [Option.some.injEq,Prod.mk.injEq] at h
    obtain ⟨r,rfl⟩:=h
    rw [hg] at r
    obtain ⟨h0,h1⟩:=Z5o r
    obtain ⟨z,D⟩:=Q (by simp)
    have D:Rp w G.F G.St G.Al (.slice f) tg (Z02 (a.eval x)) l []:=D
    obtain ⟨t',L,cap,rfl,v,V,T⟩:=D
    have hv:a.eval x= .slice L (List.length (α:=El f) l) cap:=by
     have z:Z0f false (a.eval x):=z
     rw [Z0q z] at v
     simpa using v
    obtain ⟨k,U⟩:=Z3O I B H
    have d:n.toNat<List.length (α:=El f) l:=by omega
    rcases T with ⟨_,_,u,_⟩ | ⟨_,b,off,fps,_,_,u,_⟩ | ⟨K,_,u⟩
    ·rw [u] at d;simp at d
    ·cases u
    ·rcases u with u | ⟨b,off,rfl,Z,hF,y⟩
     ·rw [u] at d;simp at d
     ·obtain ⟨j,q,X⟩:=y n.toNat d
      refine ⟨.pointer (some ⟨b,off+n.toNat * size f,none⟩),⟨rfl,K,b,off+n.toNat * size f,j,rfl,q,Z,?_,?_,?_⟩,λw2=> ?_⟩
      ·have:(n.toNat+1) * size f<=List.length (α:=El f) l * size f:=Nat.mul_le_mul_right _ d
       rw [Nat.add_mul,Nat.one_mul] at this
       show off+n.toNat * size f+size f<=_
       omega
      ·intro hN t2 Y
       obtain ⟨_,rfl⟩:=List.mem_replicate.1 Y
       simp only [List.headD_cons] at hN ⊢
       cases t'<;>simp_all [Tag.isN,Tag.inner,Tag.own]
      ·have:List.getD (α:=El f) l n.toNat (zero f)=List.get (α:=El f) l ⟨n.toNat,d⟩:=Z4f _ _ _ _
       show Rp w G.F G.St G.Al f _ j (List.getD (α:=El f) l n.toNat (zero f)) []
       rw [this]
       exact X
      ·rw [Z03 W]
       simp only [execOp,hv,U,Sem.run_bind,Z5C hT ht A r,Result.andThen_ok,Sem.run_pure]
   ·cases h
  ·cases h
 ·cases h
theorem Z6e (p:Z0e P tys) (I:Inv W0 M σ a w G xs) {t:TypeId} {x i:Operand} (l:o.op= .index t x i) (h:Z0l tys σ o.op=some (g,tv)) (q:g=true):Z0O P σ a w G o tv:=by
 rw [l] at h
 simp only [Z0l] at h
 split at h
 ·rename_i s tg A ht u j
  split at h
  ·rename_i n v
   split at h
   ·cases h
   rename_i f
   simp only [Option.some.injEq,Prod.mk.injEq] at h
   obtain ⟨d,rfl⟩:=h
   rw [q] at d
   obtain ⟨m,z⟩:=Z5o d
   obtain ⟨k,r⟩:=Z3O I j v
   have y:=Z26 I u
   refine ⟨.int .u8 (bt s n),Z0A rfl ⟨rfl,rfl,rfl⟩,λw2=> ?_⟩
   rw [Z03 l]
   have e:n.toNat<s.size:=by omega
   have b:s[n.toNat]? = some s[n.toNat]:=by simp [e]
   simp only [execOp,y,r,Instr.index,asIntOf,Sem.run_bind,Sem.run_pure,Result.andThen_ok,run_underlying (Z1I p ht (by simpa using f)),if_pos m,b]
   congr 3
   unfold bt
   congr 1
   have:n.toNat<s.data.toList.length:=by simpa using e
   rw [Z4f _ _ _ this]
   rfl
  ·cases h
 ·cases h
theorem Z6Q:{ags:List Bool}->{τ:Ty}->{vs:List Value}->{i:Nat}->{F:Nat->Nat}->{St Al:Nat->Prop}->{w:World}->{x:El τ}->{tg:List Tag}->{fp:List Nat}->Z1e τ ags vs->i<ags.length ->
  ∃ v,vs[i]? = some v/\Z0f (Z0u false ags i) v/\∃ d,Z00 w τ (vs.flatMap Z02) none (Z0a ags.length i)=some (Z02 v,d)
 | [],τ,vs,i,_,_,_,w,_,_,_,h,e=>by simp at e
 | [ag],τ,vs,i,_,_,_,w,_,_,_,h,e=>by
  have:i=0:=by simpa using e
  subst this
  match vs,h with
  | [v],h=>
   have h:Z0f ag v/\(Z02 v).length=size τ:=by cases τ<;>exact h
   exact ⟨v,rfl,h.1,none,by simp [Z0a,Z0P]⟩
  | [],h=>cases τ<;>exact h.elim
  | _::_::_,h=>cases τ<;>exact h.elim
 | ag::f::ags,τ,vs,i,F,St,Al,w,x,tg,fp,h,e=>by
  cases τ with
  | pair a b=>
   cases vs with
   | nil=>exact h.elim
   | cons v vs=>
   obtain ⟨k,j,l⟩:Z0f ag v/\(Z02 v).length=size a/\Z1e b (f::ags) vs:=by
    cases vs<;>exact h
   cases i with
   | zero=>
    refine ⟨v,rfl,k,none,?_⟩
    simp only [List.length_cons,Z0a,Z00,List.flatMap_cons,Z0P]
    rw [<-j,List.take_left']
    rfl
   | succ i=>
    obtain ⟨q,m,n,d,p⟩:=Z6Q (w:=w) (x:=zero b) (tg:=[]) (fp:=[]) (F:=F) (St:=St) (Al:=Al) l (i:=i) (by simpa using e)
    refine ⟨q,by simpa using m,n,d,?_⟩
    simp only [List.length_cons,Z0a,Z00,List.flatMap_cons,Option.map_none]
    rw [<-j,List.drop_left']
    ·exact p
    ·rfl
  | _=>exact h.elim
theorem Z1e.ones:{ags:List Bool}->{τ:Ty}->{vs:List Value}->Z1e τ ags vs->∀ v∈vs,Z02 v=v.cells.toList
 | [],τ,vs,h=>by cases τ<;>cases vs<;>exact h.elim
 | [ag],τ,vs,h=>by
  match vs,h with
  | [v],h=>
   have h:Z0f ag v/\(Z02 v).length=size τ:=by cases τ<;>exact h
   intro u d
   simp only [List.mem_singleton] at d
   subst d
   exact h.1.cells
  | [],h=>cases τ<;>exact h.elim
  | _::_::_,h=>cases τ<;>exact h.elim
 | ag::e::ags,τ,vs,h=>by
  cases τ with
  | pair a b=>
   cases vs with
   | nil=>exact h.elim
   | cons v vs=>
   obtain ⟨f,j,i⟩:Z0f ag v/\(Z02 v).length=size a/\Z1e b (e::ags) vs:=by
    cases vs<;>exact h
   intro u d
   rcases List.mem_cons.1 d with rfl | d
   ·exact f.cells
   ·exact Z1e.ones i u d
  | _=>exact h.elim
theorem Z0V {i:Nat} (h:σ.slot i≠ .dead):i<σ.slots.length:=by
 rcases Nat.lt_or_ge i σ.slots.length with b | b
 ·exact b
 ·exact absurd (Z2f (d:=TV.dead) σ.slots i b) h
theorem Z5f (I:Inv W0 M σ a w G xs) {x:Operand} {i:Nat} (H:o.op= .extract x i) (h:Z0l tys σ o.op=some (g,tv)):Z0O P σ a w G o tv:=by
 rw [H] at h
 cases x with
 | tmp t=>
  have e:∀ {t':Nat} {ags:List Bool} {v:TVal},σ.content ⟨false,t',[]⟩=some v->Z09 G a w ⟨false,t',[]⟩=some (Z02 (a.tmps.getD t undef),none)->(∃ vs,a.tmps.getD t undef= .tuple vs/\Z1e v.τ ags vs.toList) ->
    (if i<ags.length then (Z36 σ ⟨false,t',Z0a ags.length i⟩ (Z0u false ags i)).map λtv=>(true,tv) else none)=some (g,tv)->Z0O P σ a w G o tv:=by
   intro t' ags v m j k h
   split at h
   ·rename_i Q
    obtain ⟨D,d,E⟩:=Option.map_eq_some_iff.1 h
    simp only [Prod.mk.injEq] at E
    obtain ⟨rfl,rfl⟩:=E
    obtain ⟨vs,l,n⟩:=k
    obtain ⟨u,p,r,f,A⟩:=Z6Q (w:=w) (x:=v.x) (tg:=v.tg) (fp:=[]) (F:=G.F) (St:=G.St) (Al:=G.Al) n Q
    have C:Z02 (a.tmps.getD t undef)=vs.toList.flatMap Z02:=by
     rw [l]
     simp only [Z02]
     have:=n.ones
     generalize vs.toList=L at this
     induction L with
     | nil=>rfl
     | cons y L T=>
      simp only [List.flatMap_cons]
      rw [T (λz R=>this z (List.mem_cons_of_mem _ R)),this y (by simp)]
    refine ⟨u,Z2z I d (cs:=Z02 u) (base:=f) ⟨v.τ,Z02 (a.tmps.getD t undef),none,?_,j,?_⟩ rfl r,λw2=> ?_⟩
    ·show (σ.content ⟨false,t',[]⟩).map (·.τ)=_
     rw [m];rfl
    ·rw [C];exact A
    ·rw [Z03 H]
     have B:a.eval (.tmp t)= .tuple vs:=l
     have q:vs[i]? = some u:=by rw [<-p];simp
     simp only [execOp,B,Instr.extract,q,Sem.run_bind,Sem.run_pure,Result.andThen_ok]
   ·cases h
  simp only [Z0l] at h
  split at h
  ·rename_i v ags b
   have k:=I.slot t (Z0V (by rw [b];simp))
   rw [b] at k
   exact e (v:=v) (by simp [State.content,b]) rfl k.1 h
  ·rename_i t' ags b
   have k:=I.slot t (Z0V (by rw [b];simp))
   rw [b] at k
   have K:∃ v,σ.content ⟨false,t',[]⟩=some v:=by
    split at h
    ·obtain ⟨D,d,_⟩:=Option.map_eq_some_iff.1 h
     unfold Z36 at d
     split at d
     ·rename_i u J
      unfold State.getAt at J
      obtain ⟨v,l,_⟩:=Option.bind_eq_some_iff.1 J
      exact ⟨v,l⟩
     ·cases d
    ·cases h
   obtain ⟨v,l⟩:=K
   obtain ⟨p,vs,r,A⟩:=k.2 v.τ (by show (σ.content ⟨false,t',[]⟩).map (·.τ)=_;rw [l];rfl)
   exact e l p ⟨vs,r,A⟩ h
  ·cases h
 | _=>simp [Z0l] at h
theorem Z73 (I:Inv W0 M σ a w G xs):(b:List Operand)->{l:List Place}->(b.map σ.peek).foldr (λtv f=>match tv,f with | .ptr p,some l=>some (p::l) | _,_=>none) (some [])=some l ->
  b.length=l.length/\∀ i (h:i<l.length),l[i].box=true/\Z08 l[i].path=true/\Z0w σ G a w l[i] ((b.map a.eval).getD i undef)
 | [],l,h=>by
  simp only [List.map_nil,List.foldr_nil,Option.some.injEq] at h
  subst h
  exact ⟨rfl,λi j=>absurd j (by simp)⟩
 | c::b,l,h=>by
  simp only [List.map_cons,List.foldr_cons] at h
  split at h
  ·rename_i p l' e d
   cases h
   obtain ⟨m,n⟩:=Z73 I b d
   have k:=Z0v I c (by rw [e];simp)
   rw [e] at k
   refine ⟨by simp [m],λi j=> ?_⟩
   cases i with
   | zero=>exact k.2
   | succ i=>exact n i (by simpa using j)
  ·cases h
theorem Z4M (I:Inv W0 M σ a w G xs) {f:Fn} {first b:Array Operand} (k:o.op= .makeFunc f first b) (h:Z0l tys σ o.op=some (g,tv)):Z0O P σ a w G o tv:=by
 rw [k] at h
 cases f with
 | func f=>
  simp only [Z0l] at h
  split at h
  ·rename_i j
   split at h
   ·rename_i l q
    simp only [Option.some.injEq,Prod.mk.injEq] at h
    obtain ⟨rfl,rfl⟩:=h
    obtain ⟨m,n⟩:=Z73 I _ q
    have d:first= #[]:=by simpa using j
    refine ⟨.func (.func f) #[] (b.map a.eval),⟨rfl,b.map a.eval,rfl,by simpa using m,λi p=> ?_⟩,λw2=> ?_⟩
    ·have:=n i p
     have e:(b.map a.eval).getD i undef=(b.toList.map a.eval).getD i undef:=by
      rw [<-Array.toList_map,Array.getD_eq_getD_getElem?,List.getD_eq_getElem?_getD,Array.getElem?_toList]
     rw [e];exact this
    ·rw [Z03 k]
     simp only [execOp,d,Instr.makeFunc,Sem.run_bind,Sem.run_pure,Result.andThen_ok]
     simp
   ·cases h
  ·cases h
 | _=>simp [Z0l] at h
end
end Go.PI
namespace Go.PI
theorem Z5h {τ d:Ty} (h:Z0d τ [.fst]=some d):∃ b,τ= .pair d b:=by
 cases τ with
 | pair a b=>simp only [Z0d,Option.some.injEq] at h;subst h;exact ⟨b,rfl⟩
 | _=>simp [Z0d] at h
theorem Z8Z {τ d:Ty} {p:List Step} (h:Z0d τ (.snd::p)=some d):∃ a b,τ= .pair a b/\Z0d b p=some d:=by
 cases τ with
 | pair a b=>exact ⟨a,b,rfl,by simpa [Z0d] using h⟩
 | _=>simp [Z0d] at h
section
variable {W0:Base} {M:Nat->Prop} {σ:State} {a:Act} {w:World} {G:Ghost} {xs:List Nat} {P:Program} {tys:List (TypeId×Ty×List TypeId)} {o:Oper} {g:Bool} {tv:TV}
variable {F:Nat->Nat} {St Al:Nat->Prop}
theorem Z5U {n:Nat} {t:TypeId} (h:Z42 tys n t=true):∃ m τ l,n=m+1/\Z0o tys t=some (τ,l)/\((l=[]/\((∃ k,τ= .int k)\/τ= .bool\/τ= .str))\/(l≠[]/\∀ x∈l,Z42 tys m x=true)):=by
 cases n with
 | zero=>cases h
 | succ m=>
  simp only [Z42] at h
  split at h
  ·rename_i k d;exact ⟨m,_,_,rfl,d,.inl ⟨rfl,.inl ⟨k,rfl⟩⟩⟩
  ·rename_i d;exact ⟨m,_,_,rfl,d,.inl ⟨rfl,.inr (.inl rfl)⟩⟩
  ·rename_i d;exact ⟨m,_,_,rfl,d,.inl ⟨rfl,.inr (.inr rfl)⟩⟩
  ·rename_i τ b l d
   simp only [Bool.and_eq_true,List.all_eq_true] at h
   refine ⟨m,_,_,rfl,d,.inr ⟨by simp,λx e=> ?_⟩⟩
   rcases List.mem_cons.1 e with rfl | e
   ·exact h.1
   ·exact h.2 x e
  ·cases h
theorem Z5T (r:Z0e P tys):(n d:Nat)->(t:TypeId)->n<=d->Z42 tys n t=true->P.eqGuardType d t=false
 | 0,d,t,_,h=>by cases h
 | n+1,d,t,K,h=>by
  obtain ⟨m,τ,l,L,y,b⟩:=Z5U h
  obtain rfl:m=n:=by omega
  obtain ⟨d,rfl⟩:∃ e,d=e+1:=⟨d-1,by omega⟩
  have q:=r t τ l y
  rcases b with ⟨rfl,b⟩ | ⟨C,b⟩
  ·obtain ⟨H,I,J,_⟩:=q.und rfl
   rcases b with ⟨k,rfl⟩ | rfl | rfl
   ·simp only [Program.eqGuardType,H k rfl]
   ·simp only [Program.eqGuardType,I rfl]
   ·simp only [Program.eqGuardType,J rfl]
  ·obtain ⟨u,D,A,j,_⟩:=q.str C
   simp only [Program.eqGuardType,D]
   rw [Array.any_eq_false]
   intro i B
   obtain ⟨f,R,Q,p,v,_⟩:=(j i (by omega)).out
   have z:u[i]=f:=by rw [Array.getElem?_eq_getElem B] at p;simpa using p
   rw [z,v]
   have E:Z42 tys m (l.getD i 0)=true:=b _ (by rw [List.getD_eq_getElem?_getD,List.getElem?_eq_getElem (by omega)];exact List.getElem_mem _)
   rw [Z5T r m d _ (by omega) E]
   simp
def EqT (P:Program) (tys:List (TypeId×Ty×List TypeId)) (w:World) (F:Nat->Nat) (St Al:Nat->Prop) (d:Nat) (t:TypeId):Prop:=
 ∀ τ l,Z0o tys t=some (τ,l)->∀ (e f:List Value) (x y:El τ) (h i:List Tag),Rp w F St Al τ h e x []->Rp w F St Al τ i f y []->∀ b,Z41 τ x y=some b->∀ w2,
  (Op.equalIn d t (Z0K (!l.isEmpty) e) (Z0K (!l.isEmpty) f)).run P w2= .ok b w2
theorem Z7n {a b:Ty} {tg:List Tag} {cs:List Value} {x:El (.pair a b)} (h:Rp w F St Al (.pair a b) tg cs x []):∃ f i d e,cs=d++e/\Rp w F St Al a f d x.1 []/\Rp w F St Al b i e x.2 []:=by
 obtain ⟨f,i,d,e,m,n,_,rfl,l,j,k⟩:=h
 have:=List.append_eq_nil_iff.1 l.symm
 rw [this.1] at j
 rw [this.2] at k
 exact ⟨f,i,d,e,rfl,j,k⟩
theorem Z6E (H:Z0e P tys) (d:Nat) (k l:Array Value) (w2:World):(m:Nat)->(fl:List Field)->(τ:Ty)->(off:Nat)->m≠0->fl.length=m ->
  (∀ i, i < m → ∃ f u C, fl[i]? = some f ∧ f.offset = off + Z0g τ (Z0a m i) ∧ Z0d τ (Z0a m i) = some u ∧ Z0o tys f.type = some (u, C) ∧ f.name ≠ "_" ∧ EqT P tys w F St Al d f.type) →
  ∀ (x y:El τ) (v A:List Tag),Rp w F St Al τ v (k.toList.drop off) x []->Rp w F St Al τ A (l.toList.drop off) y []->∀ b,Z41 τ x y=some b->(Op.eqFields d k l fl).run P w2= .ok b w2
 | 0,fl,τ,off,h,_,_,x,y,v,A,U,V,b,I=>absurd rfl h
 | 1,fl,τ,off,_,Y,X,x,y,v,A,U,V,b,I=>by
  obtain ⟨f,u,C,R,K,T,B,g5,g6⟩:=X 0 (by omega)
  obtain ⟨f',rfl⟩:=List.length_eq_one_iff.1 Y
  simp only [List.getElem?_cons_zero,Option.some.injEq] at R
  subst R
  simp only [Z0a,Z1G,Option.some.injEq,Z4D,Nat.add_zero] at K T
  subst T
  have Z:=U.len.1
  have s2:=V.len.1
  simp only [List.length_drop,Array.length_toList] at Z s2
  have e:=(H _ _ _ B)
  have D:=Z2U H B (cs:=k) (off:=off)
  have E:=Z2U H B (cs:=l) (off:=off)
  by_cases J:size τ=0
  ·obtain ⟨i,z,q1,q2,q3,q4,_⟩:=e.info
   exfalso
   by_cases j:C=[]
   ·obtain ⟨_,_,_,_,u5,u6⟩:=e.und j
    cases τ with
    | unit=>exact u5 rfl
    | pair a b=>exact u6 a b rfl
    | _=>simp [size] at J
   ·obtain ⟨fs,_,_,W,_⟩:=e.str j
    obtain ⟨f2,τ2,l2,_,_,_,r,_,q7,_⟩:=(W 0 (List.length_pos_iff.2 j)).out
    match hn:C.length with
    | 0=>exact absurd (List.length_eq_zero_iff.1 hn) j
    | 1=>
     rw [hn] at r
     simp only [Z0a,Z1G,Option.some.injEq] at r
     subst r
     exact q7 J
    | n+2=>
     rw [hn] at r
     simp only [Z0a] at r
     obtain ⟨b,rfl⟩:=Z5h r
     simp only [size] at J
     omega
  ·have D:=D (by omega) w2
   have E:=E (by omega) w2
   rw [List.take_of_length_le (by simp;omega)] at D E
   have e3:=g6 τ C B _ _ x y v A U V b I w2
   simp only [Op.eqFields,g5,ne_eq,not_false_eq_true,if_true,Sem.run_bind,K,D,E,e3,Result.andThen_ok]
   cases b<;>simp
 | m+2,fl,τ,off,_,Y,X,x,y,v,A,U,V,b,I=>by
  obtain ⟨f,u,C,R,K,T,B,g5,g6⟩:=X 0 (by omega)
  cases fl with
  | nil=>simp at Y
  | cons f' fl=>
   simp only [List.getElem?_cons_zero,Option.some.injEq] at R
   subst R
   simp only [Z0a] at K T
   obtain ⟨τb,rfl⟩:=Z5h T
   have h0:Z0g (.pair u τb) [.fst]=0:=by cases u<;>rfl
   rw [h0,Nat.add_zero] at K
   obtain ⟨ta1,tb1,ca1,L,k1,r1,r2⟩:=Z7n U
   obtain ⟨ta2,tb2,ca2,Q,k2,r3,r4⟩:=Z7n V
   simp only [Z41] at I
   split at I
   ·rename_i p q hp hq
    cases I
    have Z:=r1.len.1
    have s2:=r3.len.1
    have l1:(k.toList.drop off).length=ca1.length+L.length:=by rw [k1,List.length_append]
    have l2:(l.toList.drop off).length=ca2.length+Q.length:=by rw [k2,List.length_append]
    simp only [List.length_drop,Array.length_toList] at l1 l2
    by_cases J:size u=0
    ·
     exfalso
     have e:=(H _ _ _ B)
     by_cases j:C=[]
     ·obtain ⟨_,_,_,_,u5,u6⟩:=e.und j
      cases u with
      | unit=>exact u5 rfl
      | pair a b=>exact u6 a b rfl
      | _=>simp [size] at J
     ·obtain ⟨fs,_,_,W,_⟩:=e.str j
      obtain ⟨f2,τ2,l2,_,_,_,r,_,q7,_⟩:=(W 0 (List.length_pos_iff.2 j)).out
      match hn:C.length with
      | 0=>exact absurd (List.length_eq_zero_iff.1 hn) j
      | 1=>
       rw [hn] at r
       simp only [Z0a,Z1G,Option.some.injEq] at r
       subst r
       exact q7 J
      | n+2=>
       rw [hn] at r
       simp only [Z0a] at r
       obtain ⟨b,rfl⟩:=Z5h r
       simp only [size] at J
       omega
    have D:=Z2U H B (cs:=k) (off:=off) (by omega) w2
    have E:=Z2U H B (cs:=l) (off:=off) (by omega) w2
    rw [k1,List.take_left' Z] at D
    rw [k2,List.take_left' s2] at E
    have e3:=g6 u C B _ _ x.1 y.1 ta1 ta2 r1 r3 p hp w2
    have d1:k.toList.drop (off+size u)=L:=by rw [<-List.drop_drop,k1,List.drop_left' Z]
    have d2:l.toList.drop (off+size u)=Q:=by rw [<-List.drop_drop,k2,List.drop_left' s2]
    have e4:=Z6E H d k l w2 (m+1) fl τb (off+size u) (by omega) (by simpa using Y) (λi hi=>by
     obtain ⟨f,τg,lg,q1,q2,q3,q4,W,r⟩:=X (i+1) (by omega)
     simp only [Z0a] at q2 q3
     obtain ⟨a',b',he,q3'⟩:=Z8Z q3
     cases he
     refine ⟨f,τg,lg,by simpa using q1,?_,q3',q4,W,r⟩
     have:Z0g (.pair u τb) (.snd::Z0a (m+1) i)=size u+Z0g τb (Z0a (m+1) i):=rfl
     rw [q2,this];omega) x.2 y.2 tb1 tb2 (by rw [d1];exact r2) (by rw [d2];exact r4) q hq
    simp only [Op.eqFields,g5,ne_eq,not_false_eq_true,if_true,Sem.run_bind,K,D,E,e3,Result.andThen_ok]
    cases p
    ·simp
    ·simpa using e4
   ·cases I
theorem Z79 (B:Z0e P tys):(n d:Nat)->(t:TypeId)->n<=d->Z42 tys n t=true->EqT P tys w F St Al d t
 | 0,d,t,_,h=>by cases h
 | n+1,d,t,hd,h=>by
  obtain ⟨m,τ,l,hm,Q,r⟩:=Z5U h
  obtain rfl:m=n:=by omega
  obtain ⟨d,rfl⟩:∃ e,d=e+1:=⟨d-1,by omega⟩
  have L:=B t τ l Q
  intro τ' l' p z A x y I J u v b j w2
  rw [Q] at p
  cases p
  rcases r with ⟨rfl,r⟩ | ⟨T,r⟩
  ·obtain ⟨u1,u2,u3,_⟩:=L.und rfl
   rcases r with ⟨k,rfl⟩ | rfl | rfl
   ·obtain ⟨rfl,_,_⟩:=u
    obtain ⟨rfl,_,_⟩:=v
    simp only [Z41,Option.some.injEq] at j
    subst j
    show (Op.equalIn (d+1) t (.int k x) (.int k y)).run P w2=_
    simp only [Op.equalIn,Sem.run_bind,run_underlying (u1 k rfl),Result.andThen_ok,if_true,Sem.run_pure]
   ·obtain ⟨rfl,_,_⟩:=u
    obtain ⟨rfl,_,_⟩:=v
    simp only [Z41,Option.some.injEq] at j
    subst j
    show (Op.equalIn (d+1) t (.bool x) (.bool y)).run P w2=_
    simp only [Op.equalIn,Sem.run_bind,run_underlying (u2 rfl),Result.andThen_ok,Sem.run_pure]
   ·obtain ⟨rfl,_,_⟩:=u
    obtain ⟨rfl,_,_⟩:=v
    simp only [Z41,Option.some.injEq] at j
    subst j
    show (Op.equalIn (d+1) t (.string x) (.string y)).run P w2=_
    simp only [Op.equalIn,Sem.run_bind,run_underlying (u3 rfl),Result.andThen_ok,Sem.run_pure]
    rw [beq_toListBytes]
  ·obtain ⟨K,U,C,D,H⟩:=L.str T
   have E:(!l.isEmpty)=true:=by cases l<;>simp_all
   rw [E]
   have q:P.fieldsOf t=K:=by simp [Program.fieldsOf,U]
   show (Op.equalIn (d+1) t (.agg z.toArray) (.agg A.toArray)).run P w2=_
   rw [run_equalIn_struct w2 d t _ _ (by rw [q];exact U) H,q]
   refine Z6E B d _ _ w2 l.length K.toList τ 0 (by simpa using T) (by simpa using C) (λi R=> ?_) x y I J (by simpa using u) (by simpa using v) b j
   obtain ⟨f,τf,W,X,Y,Z,q4,q5,_,q7⟩:=(D i R).out
   refine ⟨f,τf,W,by rw [Array.getElem?_toList];exact X,by rw [Z];omega,q4,q5,q7,?_⟩
   have V:Z42 tys m f.type=true:=by
    rw [Y]
    exact r _ (by rw [List.getD_eq_getElem?_getD,List.getElem?_eq_getElem R];exact List.getElem_mem _)
   exact Z79 B m d f.type (by omega) V
theorem Z9j (R:Z0e P tys) (I:Inv W0 M σ a w G xs) {C:BinOp} {t ty:TypeId} {x y:Operand} (V:o.op= .binOp C t x y ty) {u v:TVal} (Z:σ.look x=some u) (hv:σ.look y=some v) (z:u.ag=true) (A:v.ag=true)
  {r:Bool×TVal} (e:eqV tys t C u v=some r):Z0O P σ a w G o (.val r.2):=by
 unfold eqV at e
 split at e
 ·rename_i T
  simp only [Bool.and_eq_true,decide_eq_true_eq] at T
  obtain ⟨⟨j,K⟩,L⟩:=T
  obtain ⟨l,n,U⟩:=Z0R L
  rw [K] at U
  obtain ⟨f,k⟩:=Z1q I Z
  obtain ⟨h,m⟩:=Z1q I hv
  obtain ⟨τ,ag,p,tg⟩:=u
  obtain ⟨τ',X,q,Q⟩:=v
  simp only at z A k m f h n
  subst z;subst A
  obtain ⟨D,H⟩:=k
  obtain ⟨E,J⟩:=m
  split at e
  ·rename_i W
   simp only at W
   subst W
   have v1:Z02 (a.eval x)=D.toList:=by rw [H];rfl
   have v2:Z02 (a.eval y)=E.toList:=by rw [J];rfl
   rw [v1] at f
   rw [v2] at h
   have d:∀ w2:World,(eqGuard C t x y (.agg D) (.agg E)).run P w2= .ok () w2:=by
    intro w2
    have Y:=Z5T R 20 P.depth t (by unfold Program.depth Made.depth;omega) j
    cases C<;>simp [eqGuard,Y,Sem.run_bind,run_program]
   have i:∀ b,Z41 τ' p q=some b->∀ w2,(Op.equal t (.agg D) (.agg E)).run P w2= .ok b w2:=by
    intro b B w2
    have:=Z79 (w:=w) (F:=G.F) (St:=G.St) (Al:=G.Al) R 20 Op.maxDepth t (by unfold Op.maxDepth;omega) j _ _ n _ _ p q tg Q f h b B w2
    rw [<-U] at this
    exact this
   split at e
   ·rename_i b B
    split at e
    ·cases e
     refine ⟨.bool b,Z0A rfl ⟨rfl,rfl,rfl⟩,λw2=> ?_⟩
     rw [Z03 V]
     simp only [execOp,H,J,Sem.run_bind,d w2,Result.andThen_ok,binOp,i b B w2,Sem.run_pure]
    ·cases e
     refine ⟨.bool (!b),Z0A rfl ⟨rfl,rfl,rfl⟩,λw2=> ?_⟩
     rw [Z03 V]
     simp only [execOp,H,J,Sem.run_bind,d w2,Result.andThen_ok,binOp,i b B w2,Sem.run_pure]
    ·cases e
   ·cases e
  ·cases e
 ·cases e
theorem Z7x (i:Z0e P tys) (I:Inv W0 M σ a w G xs) {n:BinOp} {t ty:TypeId} {x y:Operand} (e:o.op= .binOp n t x y ty) (h:Z0l tys σ o.op=some (g,tv)) (m:g=true):Z0O P σ a w G o tv:=by
 rw [e] at h
 simp only [Z0l] at h
 split at h
 ·rename_i u v k l
  obtain ⟨r,f,j⟩:=Option.map_eq_some_iff.1 h
  simp only [Prod.mk.injEq] at j
  obtain ⟨d,rfl⟩:=j
  rw [m] at d
  split at f
  ·rename_i b
   simp only [Bool.and_eq_true] at b
   exact Z9j i I e k l b.1 b.2 f
  ·exact Z8U i I e k l f d
 ·cases h
theorem Z7A (d:Z0e P tys) (I:Inv W0 M σ a w G xs) (h:Z0l tys σ o.op=some (g,tv)) (e:g=true):Z5O P σ a w G o tv:=by
 cases b:o.op with
 | move x=>exact (Z3g I b h).ok
 | unOp j t x=>exact (Z6P I b h).ok
 | binOp j t x y ty=>exact (Z7x d I b h e).ok
 | convert s t x=>exact Z7y d I b h
 | nilCheck x=>exact (Z3q I b h).ok
 | makeFunc f fst cs=>exact (Z4M I b h).ok
 | load t x=>exact Z8V d I b h
 | slice t x l k m=>exact (Z6f d I b h e).ok
 | fieldAddr t x i=>exact (Z2W d I b h).ok
 | field t x i=>exact (Z6d d I b h).ok
 | indexAddr t x i=>exact (Z2X d I b h e).ok
 | index t x i=>exact (Z6e d I b h e).ok
 | extract x i=>exact (Z5f I b h).ok
 | call c=>exact (Z7z d I b h).ok
 | _=>rw [b] at h;simp [Z0l] at h
end
end Go.PI
namespace Go.PI
structure Calmer (w:World) (G:Ghost) (w':World) (G':Ghost):Prop where
 a:∀ w2,Z6h w' G' w2->Z6h w G w2
 b:∀ w2,Z4o w' G' w2->Z4o w G w2
def Z5k (w:World) (G:Ghost) (w':World) (G':Ghost):Prop:=∀ w2,Z4o w' G' w2->Z4o w G w2
theorem Calmer.refl (w:World) (G:Ghost):Calmer w G w G:=⟨λ_ h=>h,λ_ h=>h⟩
theorem Calmer.trans {i w2 j:World} {e f g:Ghost} (h:Calmer i e w2 f) (k:Calmer w2 f j g):Calmer i e j g:=⟨λw d=>h.a w (k.a w d),λw d=>h.b w (k.b w d)⟩
theorem Sim.calmer {w:World} {G G':Ghost} (h:Sim G G'):Calmer w G w G':=⟨λw2 e=>
 ⟨λb d g o n cs j f=>e.1 b d (by rw [h.Al];exact g) o n cs (by rw [h.F];exact j) f,λi b d=>e.2 i b ((h.bx b i).2 d)⟩,λw2 e i b d=>e i b ((h.bx b i).2 d)⟩
structure Pushed (w w':World) (o:Obj):Prop where
 heap:w'.heap=w.heap.push o
 os:w'.os=w.os
 tape:w'.tape=w.tape
 output:w'.output=w.output
theorem Pushed.old {w w':World} {o:Obj} (h:Pushed w w' o) {b:Nat} (d:b<w.heap.size):w'.heap[b]? = w.heap[b]? := by
 rw [h.heap,Array.getElem?_push_lt d,Array.getElem?_eq_getElem d]
theorem Pushed.new {w w':World} {o:Obj} (h:Pushed w w' o):w'.heap[w.heap.size]? = some o:=by
 rw [h.heap];simp
theorem Pushed.size {w w':World} {o:Obj} (h:Pushed w w' o):w'.heap.size=w.heap.size+1:=by rw [h.heap];simp
theorem Pushed.alloc (w:World) (o:Obj):Pushed w (w.alloc o) o:=⟨rfl,rfl,rfl,rfl⟩
theorem Pushed.drew (w:World) (o:Obj):Pushed w (w.drew.alloc o) o:=⟨rfl,rfl,rfl,rfl⟩
def Ghost.grow (G:Ghost) (g:Nat) (z:Who) (n:Nat):Ghost:=
 { G with F:=λb=>if b=g then n else G.F b,who:=λb=>if b=g then some z else G.who b }
section
variable {W0:Base} {M:Nat->Prop} {σ:State} {a:Act} {w w':World} {G:Ghost} {xs:List Nat}
theorem Inv.grow (I:Inv W0 M σ a w G xs) {o:Obj} (e:Pushed w w' o) {z:Who} (n:Nat) {ys:List Nat} (A:(z= .x/\ys=[w.heap.size])\/((∃ i,z= .a i)/\ys=[])) :
  Inv W0 M σ a w' (G.grow w.heap.size z n) (ys++xs)/\Calmer w G w' (G.grow w.heap.size z n) /\
   ∀ (τ:Ty) (tg:List Tag) (cs:List Value) (x:El τ) (fp:List Nat),Rp w G.F G.St G.Al τ tg cs x fp ->
    Rp w' (G.grow w.heap.size z n).F (G.grow w.heap.size z n).St (G.grow w.heap.size z n).Al τ tg cs x fp:=by
 have l:∀ b,b<w.heap.size->Z07 w G.F w' (G.grow w.heap.size z n).F b/\(G.grow w.heap.size z n).F b=G.F b:=by
  intro b d
  have:(G.grow w.heap.size z n).F b=G.F b:=by
   show (if b=w.heap.size then n else G.F b)=_
   rw [if_neg (by omega)]
  exact ⟨Z07.of_block (e.old d) (by rw [this];exact Nat.le_refl _),this⟩
 have f:∀ b,b<w.heap.size->(G.grow w.heap.size z n).who b=G.who b:=λb d=>if_neg (by omega)
 have g:∀ b z,G.who b=some z->b<w.heap.size:=λb z h=>(I.lt b z h).1
 have j:∀ b k,G.who b=some k->(G.grow w.heap.size z n).who b=some k:=λb k h=>by rw [f b (g b k h)];exact h
 have m:Same σ w G w' (G.grow w.heap.size z n):=
  ⟨rfl,rfl,rfl,λb k h _=>j b k h,λb d h=>⟨λi=>by rw [f b d];exact h.1 i,λy=>h.2 (by rw [<-f b d];exact y)⟩,λb h=>h,λb h=>(l b (I.st b h).2).1,λb z h _ _=>l b (g b z h),λi v h=>e.old (g _ _ (I.box i v h).2),.inr λb d _=>(l b d).1⟩
 have D:(G.grow w.heap.size z n).who w.heap.size=some z:=if_pos rfl
 refine ⟨?_,?_,?_⟩
 ·refine I.world m (λb d=>⟨?_,?_⟩) (λb k d=> ?_) ?_ (λb d=> ?_) ?_ ⟨λb d u=>by rw [(l b (by have:=I.ext.size;omega)).2];exact I.org.F b d u,I.org.St,I.org.St'⟩
  ·rw [f b (I.st b d).2];exact (I.st b d).1
  ·rw [e.size];have:=(I.st b d).2;omega
  ·by_cases p:b=w.heap.size
   ·subst p
    exact ⟨by rw [e.size];omega,.inl I.ext.size⟩
   ·have:G.who b=some k:=by
     have q:(G.grow w.heap.size z n).who b=G.who b:=if_neg p
     rw [<-q];exact d
    obtain ⟨q,B⟩:=I.lt b k this
    exact ⟨by rw [e.size];omega,B⟩
  ·refine ⟨e.os.trans I.ext.os,e.tape.trans I.ext.tape,e.output.trans I.ext.output,by rw [e.size];have:=I.ext.size;omega,λb d u=> ?_⟩
   rw [e.old (by have:=I.ext.size;omega)];exact I.ext.block b d u
  ·rcases List.mem_append.1 d with d | d
   ·rcases A with ⟨rfl,rfl⟩ | ⟨_,rfl⟩
    ·rw [List.mem_singleton.1 d];exact D
    ·cases d
   ·exact j b _ (I.whoX b d)
  ·rcases A with ⟨rfl,rfl⟩ | ⟨_,rfl⟩
   ·refine List.nodup_cons.2 ⟨λE=> ?_,I.nodX⟩
    have:=g _ _ (I.whoX _ E)
    omega
   ·exact I.nodX
 ·refine ⟨λw2 r=>⟨λb d C o H cs y q=> ?_,λi b d=> ?_⟩,λw2 r i b d=> ?_⟩
  ·refine r.1 b (by rw [e.size];omega) (m.Al b d C) o H cs (by rw [(l b d).2];exact y) ?_
   rw [Z10 (e.old d)];exact q
  ·rw [r.2 i b (j b _ d)]
   exact e.old (g b _ d)
  ·rw [r i b (j b _ d)]
   exact e.old (g b _ d)
 ·intro τ tg cs x fp h
  exact h.pres m.St m.Al m.S (λb d=>l b (h.lt b d)) (.inr λb d _=>(l b d).1)
end
end Go.PI
namespace Go.PI
def Z1t (i:Nat) (tv:TV) (v:Value) (Q:Place->Value->Prop):Prop:=
 match tv with
 | .ref p _=>¬ (p.box=true/\p.root=i)
 | .eref p=>¬ (p.box=true/\p.root=i)
 | .ptr p=>p.root=i->Q p v
 | .clos f b=>∀ k (h:k<b.length),b[k].root=i->∀ vs:Array Value,v= .func (.func f) #[] vs->Q b[k] (vs.getD k undef)
 | _=>True
theorem Z1t.mono {i:Nat} {tv:TV} {v:Value} {Q d:Place->Value->Prop} (h:Z1t i tv v Q) (e:∀ p v,p.root=i->Q p v->d p v):Z1t i tv v d:=by
 cases tv with
 | ptr p=>exact λb=>e _ _ b (h b)
 | clos f l=>exact λk g b vs j=>e _ _ b (h k g b vs j)
 | _=>exact h
theorem Z1t.or_dead {i:Nat} {tv b:TV} {v:Value} {Q:Place->Value->Prop} (h:Z1t i tv v Q) (ht:b=tv\/b= .dead):Z1t i b v Q:=by
 rcases ht with rfl | rfl
 ·exact h
 ·trivial
def Z2l (g:Nat) (τ:Ty) (p:Place) (u:Value):Prop:=
 p.box=true/\Z08 p.path=true/\∃ off,u= .pointer (some ⟨g,off,none⟩)/\∀ (w:World) (l:List Value),∃ cs,Z00 w τ l (some (g,0)) p.path=some (cs,some (g,off))
theorem Z4A:{path:List Step}->{w w':World}->{τ:Ty}->{l l':List Value}->{base:Option (Nat×Nat)}->{cs:List Value}->{b:Option (Nat×Nat)}->Z08 path=true ->
  Z00 w τ l base path=some (cs,b)->∃ e,Z00 w' τ l' base path=some (e,b)
 | [],w,w',τ,l,l',base,cs,b,_,h=>by
  rw [Z0P] at h ⊢
  cases h
  exact ⟨_,rfl⟩
 | .fst::p,w,w',.pair a c,l,l',base,cs,b,d,h=>Z4A (path:=p) (τ:=a) (w:=w) (w':=w') (l:=l.take (size a)) (l':=l'.take (size a)) d h
 | .snd::p,w,w',.pair a c,l,l',base,cs,b,d,h=>Z4A (path:=p) (τ:=c) (w:=w) (w':=w') (l:=l.drop (size a)) (l':=l'.drop (size a)) d h
 | .idx _::_,_,_,_,_,_,_,_,_,d,_=>by simp [Z08] at d
 | .fst::_,_,_,.int _,_,_,_,_,_,_,h=>by simp [Z00] at h
 | .fst::_,_,_,.bool,_,_,_,_,_,_,h=>by simp [Z00] at h
 | .fst::_,_,_,.str,_,_,_,_,_,_,h=>by simp [Z00] at h
 | .fst::_,_,_,.unit,_,_,_,_,_,_,h=>by simp [Z00] at h
 | .fst::_,_,_,.slice _,_,_,_,_,_,_,h=>by simp [Z00] at h
 | .snd::_,_,_,.int _,_,_,_,_,_,_,h=>by simp [Z00] at h
 | .snd::_,_,_,.bool,_,_,_,_,_,_,h=>by simp [Z00] at h
 | .snd::_,_,_,.str,_,_,_,_,_,_,h=>by simp [Z00] at h
 | .snd::_,_,_,.unit,_,_,_,_,_,_,h=>by simp [Z00] at h
 | .snd::_,_,_,.slice _,_,_,_,_,_,_,h=>by simp [Z00] at h
section
variable {W0:Base} {M:Nat->Prop} {σ:State} {a:Act} {w w':World} {G:Ghost} {xs:List Nat}
theorem Z1C {i:Nat} {v:TVal} (h:σ.boxAt i=some v):i<σ.boxes.length:=by
 rcases Nat.lt_or_ge i σ.boxes.length with b | b
 ·exact b
 ·rw [show σ.boxAt i=none from Z2f _ _ b] at h;cases h
theorem Z0D (i:Nat) (v:Option TVal) (j:Nat):(σ.putBox i v).boxAt j=if i=j/\i<σ.boxes.length then v else σ.boxAt j:=Z0T _ _ _ _
theorem Z1F (i:Nat) (v:Option TVal) (j:Nat):(σ.putBox i v).slot j=σ.slot j:=rfl
theorem Z56 {i:Nat} {v:TVal} {p:Place} {u:Value} (I:Inv W0 M σ a w G xs) (g:σ.boxAt i=some v) (e:p.box=true) (d:Z08 p.path=true) (n:p.root=i) (h:Z0w σ G a w p u):Z2l (G.ad i) v.τ p u:=by
 obtain ⟨B,r,path⟩:=p
 simp only at e n d
 subst e
 subst n
 rcases h with h | ⟨cs,b,⟨τ,l,A,j,k,m⟩,y⟩
 ·rw [Z1p,g] at h;cases h
 ·rw [Z1p,g] at j
  cases j
  obtain ⟨⟨c,T,z,_⟩,_⟩:=I.box r v g
  simp only [Z09,z,Option.some.injEq,Prod.mk.injEq] at k
  obtain ⟨rfl,rfl⟩:=k
  have f:∃ off,b=(G.ad r,off):=by
   have:∀ {path:List Step} {τ:Ty} {l:List Value} {base:Nat×Nat} {cs:List Value} {b:Nat×Nat},Z08 path=true->Z00 w τ l (some base) path=some (cs,some b)->b.1=base.1:=by
    intro path
    induction path with
    | nil=>intro τ l base cs b _ h;rw [Z0P] at h;cases h;rfl
    | cons s path q=>
     intro τ l base cs b d h
     cases s with
     | idx i=>simp [Z08] at d
     | fst=>cases τ<;>first | (exact q (by simpa [Z08] using d) h) | (simp [Z00] at h)
     | snd=>cases τ<;>first | (have:=q (by simpa [Z08] using d) h;exact this) | (simp [Z00] at h)
   have:=this d m
   exact ⟨b.2,Prod.ext this rfl⟩
  obtain ⟨off,rfl⟩:=f
  exact ⟨rfl,d,off,y,λw l=>Z4A d m⟩
theorem Inv.ptrFix (I:Inv W0 M σ a w G xs) {i:Nat} {v:TVal} (m:σ.boxAt i=some v) (j:Nat) (q:j<σ.slots.length) :
  Z1t i (TV.loosen true i (σ.slot j)) (a.tmps.getD j undef) (Z2l (G.ad i) v.τ):=by
 have h:=I.slot j q
 cases n:σ.slot j with
 | ref p ag=>
  simp only [TV.loosen]
  split
  ·trivial
  ·rename_i e;simpa [Z1t] using e
 | eref p=>
  simp only [TV.loosen]
  split
  ·trivial
  ·rename_i e;simpa [Z1t] using e
 | ptr p=>
  rw [n] at h
  exact λl=>Z56 I m h.2.1 h.2.2.1 l h.2.2.2
 | clos f y=>
  rw [n] at h
  obtain ⟨_,vs,r,_,g⟩:=h
  intro k b l u d
  rw [r] at d
  cases d
  exact Z56 I m (g k b).1 (g k b).2.1 l (g k b).2.2
 | _=>trivial
theorem Z2l.rel {σ':State} {i:Act} {G':Ghost} {g:Nat} {τ:Ty} {p:Place} {u:Value} (h:Z2l g τ p u) {v:TVal} (f:σ'.boxAt p.root=some v) (m:v.τ=τ) (b:G'.ad p.root=g)
  {c:Array Value} {T:TypeId} {fr:Nat×Nat} (j:w'.heap[g]? = some (.cells c T fr)):Z0w σ' G' i w' p u:=by
 obtain ⟨d,q,off,l,k⟩:=h
 obtain ⟨cs,e⟩:=k w' c.toList
 obtain ⟨n,r,path⟩:=p
 simp only at d f b e
 subst d
 refine .inr ⟨cs,(g,off),⟨τ,c.toList,some (g,0),?_,?_,e⟩,l⟩
 ·rw [Z1p,f,<-m];rfl
 ·simp only [Z09,b,j]
theorem Inv.addBox {fv:List Nat} (I:Inv W0 M σ a w G (fv++xs)) {i g:Nat} {c:Array Value} {T:TypeId} {v:TVal} (hi:i<σ.boxes.length) (e:w.heap[g]? = some (.cells c T (0,0)))
  (hw:G.who g=some (.a i)) (hR:Rp w G.F G.St G.Al v.τ v.tg c.toList v.x fv)
  (hs:∀ j,j<σ.slots.length->Z1t i (σ.slot j) (a.tmps.getD j undef) (λp u=>Z2l g v.τ p u)) (V:i<σ.slots.length\/G.ad i=g) :
  ∃ G',Inv W0 M (σ.putBox i (some v)) a w G' xs/\G'.F=G.F/\G'.St=G.St/\G'.Al=G.Al/\(∀ b k,G'.who b=some (.a k)↔G.who b=some (.a k))/\G'.ad=λj=>if j=i then g else G.ad j:=by
 classical
 let G':Ghost:=⟨G.F,G.St,(λb=>if b∈fv then some (.c i) else G.who b),G.fs,(λj=>if j=i then fv else G.fb j),λj=>if j=i then g else G.ad j⟩
 have n:∀ b∈fv,G.who b=some .x:=λb e=>I.whoX b (List.mem_append_left _ e)
 have J:∀ b k,G'.who b=some (.a k)↔G.who b=some (.a k):=by
  intro b k
  show (if b∈fv then some (Who.c i) else G.who b)=some (.a k)↔_
  by_cases e:b∈fv
  ·rw [n b e];simp [e]
  ·simp [e]
 have m:G'.Al=G.Al:=by
  funext b
  apply propext
  show ((∀ k,(if b∈fv then some (Who.c i) else G.who b)≠some (.a k))/\((if b∈fv then some (Who.c i) else G.who b)=none->G.St b))↔_
  by_cases e:b∈fv
  ·simp only [e,if_true]
   have:=n b e
   constructor
   ·intro _;exact ⟨λk=>(by rw [this];simp),λh=>(by rw [this] at h;cases h)⟩
   ·intro _;exact ⟨λk=>(by simp),λh=>(by cases h)⟩
  ·simp only [e,if_false];rfl
 have C:∀ p:Place,¬ (p.box=true/\p.root=i)->(σ.putBox i (some v)).ct p=σ.ct p/\Z09 G' a w p=Z09 G a w p:=by
  rintro ⟨bx,r,path⟩ hp
  cases bx with
  | false=>exact ⟨rfl,rfl⟩
  | true=>
   have W:r≠i:=λh=>hp ⟨rfl,h⟩
   refine ⟨?_,?_⟩
   ·rw [Z1p,Z1p,Z0D,if_neg (by rintro ⟨h,_⟩;exact W h.symm)]
   ·simp only [Z09]
    rw [show G'.ad r=G.ad r from if_neg W]
 have B:∀ {p:Place} {u:Value},p.root≠i->Z0w σ G a w p u->Z0w (σ.putBox i (some v)) G' a w p u:=by
  intro p u A h
  obtain ⟨P,Q⟩:=C p (λh=>A h.2)
  rcases h with h | ⟨cs,b,⟨τ,l,b',R,U,h5⟩,h6⟩
  ·exact .inl (P.trans h)
  ·exact .inr ⟨cs,b,⟨τ,l,b',P.trans R,Q.trans U,h5⟩,h6⟩
 have L:(σ.putBox i (some v)).boxAt i=some v:=by rw [Z0D];simp [hi]
 have E:∀ {p:Place} {u:Value},p.root=i->Z2l g v.τ p u->Z0w (σ.putBox i (some v)) G' a w p u:=by
  intro p u A h
  exact h.rel (v:=v) (by rw [A];exact L) rfl (show (if p.root=i then g else G.ad p.root)=g by rw [if_pos A]) e
 refine ⟨G',⟨I.defers,I.len,λj K=> ?_,λj u Y=> ?_,λj b e=> ?_,λj b e=> ?_,λb e=> ?_,I.nodS,λj=> ?_,(List.nodup_append.1 I.nodX).2.1,λb e=> ?_,λb z e=> ?_,I.ext,λj K=> ?_,⟨I.org.F,I.org.St,I.org.St'⟩,I.pin⟩,rfl,rfl,m,J,rfl⟩
 ·have h:=I.slot j K
  have H:=hs j K
  rw [Z1F]
  cases ht:σ.slot j with
  | ptr p=>
   rw [ht] at h H
   refine ⟨h.1,h.2.1,h.2.2.1,?_⟩
   by_cases A:p.root=i
   ·exact E A (H A)
   ·exact B A h.2.2.2
  | clos f ps=>
   rw [ht] at h H
   obtain ⟨P,vs,Q,R,U⟩:=h
   refine ⟨P,vs,Q,R,λk X=>⟨(U k X).1,(U k X).2.1,?_⟩⟩
   by_cases A:ps[k].root=i
   ·exact E A (H k X A vs Q)
   ·exact B A (U k X).2.2
  | ref p ag=>
   rw [ht] at h H
   exact Z01.move (λq d=> .inr (C q (by rw [List.mem_singleton.1 d];exact H))) rfl rfl m h
  | eref p=>
   rw [ht] at h H
   exact Z01.move (λq d=> .inr (C q (by rw [List.mem_singleton.1 d];exact H))) rfl rfl m h
  | tref t' ags=>
   rw [ht] at h
   exact Z01.move (λq d=> .inr (C q (by rw [List.mem_singleton.1 d];rintro ⟨e,_⟩;cases e))) rfl rfl m h
  | dead=>rw [ht] at h;exact Z01.move (G:=G) (λq d=>absurd d (by simp [TV.places])) rfl rfl m h
  | un=>rw [ht] at h;exact Z01.move (G:=G) (λq d=>absurd d (by simp [TV.places])) rfl rfl m h
  | nil=>rw [ht] at h;exact Z01.move (G:=G) (λq d=>absurd d (by simp [TV.places])) rfl rfl m h
  | val u=>rw [ht] at h;exact Z01.move (G:=G) (λq d=>absurd d (by simp [TV.places])) rfl rfl m h
  | tup u ags=>rw [ht] at h;exact Z01.move (G:=G) (λq d=>absurd d (by simp [TV.places])) rfl rfl m h
  | eptr u t=>rw [ht] at h;exact Z01.move (G:=G) (λq d=>absurd d (by simp [TV.places])) rfl rfl m h
  | sclos f τs u=>rw [ht] at h;exact Z01.move (G:=G) (λq d=>absurd d (by simp [TV.places])) rfl rfl m h
  | sptr r τr p=>rw [ht] at h;exact Z01.move (G:=G) (λq d=>absurd d (by simp [TV.places])) rfl rfl m h
 ·rw [Z0D] at Y
  split at Y
  ·rename_i Z
   obtain ⟨rfl,_⟩:=Z
   cases Y
   refine ⟨⟨c,T,?_,?_⟩,?_⟩
   ·rw [show G'.ad i=g from if_pos rfl];exact e
   ·rw [show G'.fb i=fv from if_pos rfl,m];exact hR
   ·rw [show G'.ad i=g from if_pos rfl];exact (J _ _).2 hw
  ·rename_i Z
   have y:j≠i:=λh=>Z ⟨h.symm,hi⟩
   obtain ⟨⟨c',T',P,Q⟩,R⟩:=I.box j u Y
   refine ⟨⟨c',T',?_,?_⟩,?_⟩
   ·rw [show G'.ad j=G.ad j from if_neg y];exact P
   ·rw [show G'.fb j=G.fb j from if_neg y,m];exact Q
   ·rw [show G'.ad j=G.ad j from if_neg y];exact (J _ _).2 R
 ·have h:=I.whoS j b e
  show (if b∈fv then some (Who.c i) else G.who b)=_
  rw [if_neg (λD=>by rw [n b D] at h;cases h)]
  exact h
 ·show (if b∈fv then some (Who.c i) else G.who b)=_
  by_cases y:j=i
  ·subst y
   have:b∈fv:=by simpa [G'] using e
   rw [if_pos this]
  ·have e:b∈G.fb j:=by simpa [G',y] using e
   have h:=I.whoC j b e
   rw [if_neg (λD=>by rw [n b D] at h;cases h)]
   exact h
 ·have h:=I.whoX b (List.mem_append_right _ e)
  show (if b∈fv then some (Who.c i) else G.who b)=_
  rw [if_neg]
  ·exact h
  ·intro D
   exact (List.nodup_append.1 I.nodX).2.2 b D b e rfl
 ·show (if j=i then fv else G.fb j).Nodup
  split
  ·exact (List.nodup_append.1 I.nodX).1
  ·exact I.nodC j
 ·have h:=I.st b e
  refine ⟨?_,h.2⟩
  show (if b∈fv then some (Who.c i) else G.who b)=none
  rw [if_neg (λD=>by rw [n b D] at h;cases h.1)]
  exact h.1
 ·change (if b∈fv then some (Who.c i) else G.who b)=some z at e
  split at e
  ·rename_i D
   exact I.lt b _ (n b D)
  ·exact I.lt b z e
 ·have K:σ.slots.length<=j:=K
  show (if j=i then g else G.ad j)=_
  split
  ·rename_i h
   subst h
   rcases V with h | h
   ·omega
   ·rw [<-h];exact I.adx _ K
  ·exact I.adx j K
end
end Go.PI
namespace Go.PI
theorem Z1y {α:Type}:∀ (l:List α) (i:Nat) (u v:α),Z0H (Z0H l i u) i v=Z0H l i v
 | [],_,_,_=>rfl
 | _::_,0,_,_=>rfl
 | _::l,i+1,u,v=>by simp only [Z2v,Z29,Z1i];rw [Z1y l i u v]
theorem Z5d {α:Type} {d:α}:∀ (l:List α) (i:Nat),i<l.length->Z0H l i (Z0u d l i)=l
 | [],_,h=>by simp at h
 | _::_,0,_=>rfl
 | _::l,i+1,h=>by simp only [Z2v,Z29,Z1i,Z0x,Z0s,Z0p];rw [Z5d l i (by simpa using h)]
section
variable {W0:Base} {M:Nat->Prop} {σ:State} {a:Act} {w w':World} {G:Ghost} {xs:List Nat}
theorem Inv.takeBox (I:Inv W0 M σ a w G xs) {i:Nat} {v:TVal} (f:σ.boxAt i=some v) :
  ∃ G',Inv W0 M ((σ.loosen true i).putBox i none) a w G' (G.fb i++xs)/\Sim G G'/\G.who (G.ad i)=some (.a i) /\
   (∃ c T,w.heap[G.ad i]? = some (.cells c T (0,0))/\Rp w G.F G.St G.Al v.τ v.tg c.toList v.x (G.fb i)) /\
   ∀ j,j<σ.slots.length->Z1t i ((σ.loosen true i).slot j) (a.tmps.getD j undef) (Z2l (G.ad i) v.τ):=by
 obtain ⟨⟨c,T,m,k⟩,z⟩:=I.box i v f
 obtain ⟨u,n,_⟩:=I.loosen true i
 have d:(σ.loosen true i).content ⟨true,i,[]⟩=some v:=f
 obtain ⟨A,q,g⟩:=n.recontent (p:=⟨true,i,[]⟩) (c':=⟨v.τ,v.ag,v.x,v.tg.map Tag.alias⟩) d rfl rfl (l:=c.toList) (b:=some (G.ad i,0)) (f':=[]) (fi:=G.fb i)
  (by simp [Z09,m]) (by exact k.alias (Ghost.St_Al I)) (by simp [Ghost.fpOf])
 have h:((σ.loosen true i).setContent ⟨true,i,[]⟩ ⟨v.τ,v.ag,v.x,v.tg.map Tag.alias⟩).putBox i none=(σ.loosen true i).putBox i none:=by
  simp only [State.setContent,State.putBox,Z1y]
 obtain ⟨e,r,_⟩:=q.drop (σ':=(σ.loosen true i).putBox i none) (by simp [State.setContent,State.putBox]) (λj=> .inl rfl) (λj=>by
  rw [<-h,Z0D]
  split
  ·exact .inr rfl
  ·exact .inl rfl)
 refine ⟨_,r,((Sim.fs G u).trans g).trans (Sim.fs _ e),z,⟨c,T,m,k⟩,λj y=> ?_⟩
 rw [Z0i]
 exact I.ptrFix f j y
theorem Z3s (i j:Nat):(σ.empty i).slot j=if i=j/\i<σ.slots.length then .dead else (σ.loosen false i).slot j:=by
 unfold State.empty State.put State.slot
 simp only []
 rw [Z0T]
 simp [State.loosen,Z0b]
theorem Inv.takeSlot (I:Inv W0 M σ a w G xs) {i:Nat} {v:TVal} (d:σ.slot i= .val v) :
  ∃ G',Inv W0 M (σ.empty i) a w G' (G.fs i++xs)/\Sim G G'/\Z0f v.ag (a.tmps.getD i undef)/\Rp w G.F G.St G.Al v.τ v.tg (Z02 (a.tmps.getD i undef)) v.x (G.fs i):=by
 have k:=Z0V (σ:=σ) (i:=i) (by rw [d];simp)
 have u:=I.slot i k
 rw [d] at u
 obtain ⟨n,r⟩:=u
 have e:σ.content ⟨false,i,[]⟩=some v:=by simp [State.content,d]
 obtain ⟨B,y,m⟩:=I.recontent (p:=⟨false,i,[]⟩) (c':=⟨v.τ,v.ag,v.x,v.tg.map Tag.alias⟩) e rfl rfl (l:=Z02 (a.tmps.getD i undef)) (b:=none) (f':=[]) (fi:=G.fs i)
  rfl (by exact r.alias (Ghost.St_Al I)) (by simp [Ghost.fpOf])
 have q:∀ j,(σ.setContent ⟨false,i,[]⟩ ⟨v.τ,v.ag,v.x,v.tg.map Tag.alias⟩).slot j=if i=j then .val ⟨v.τ,v.ag,v.x,v.tg.map Tag.alias⟩ else σ.slot j:=by
  intro j
  simp only [State.setContent,d]
  show Z0u .dead (Z0H σ.slots i _) j=_
  rw [Z0T]
  by_cases h:i=j<;>simp [h,k,State.slot]
  intro C;omega
 obtain ⟨f,z,_⟩:=y.loosen false i
 obtain ⟨g,A,_⟩:=z.drop (σ':=σ.empty i) (by simp [State.setContent,State.empty,State.put,State.loosen,Z0b,d,Z0F]) (λj=>by
  rw [Z3s,Z0i,Z0i,q]
  by_cases h:i=j
  ·simp [h,k];right;intro D;omega
  ·simp [h]) (λj=>by
  left
  show σ.boxAt j=_
  simp only [State.setContent,d]
  rfl)
 exact ⟨_,A,(m.trans (Sim.fs _ f)).trans (Sim.fs _ g),n,r⟩
structure Wrote (w w':World) (g:Nat):Prop where
 size:w'.heap.size=w.heap.size
 old:∀ b,b≠g->w'.heap[b]? = w.heap[b]?
 os:w'.os=w.os
 tape:w'.tape=w.tape
 output:w'.output=w.output
theorem Inv.patch (I:Inv W0 M σ a w G xs) {g:Nat} {z:Who} (k:G.who g=some z) (m:z= .x\/∃ i,z= .a i/\σ.boxAt i=none) (f:Wrote w w' g) (n:Nat)
  (T:σ.noN\/(∃ i,z= .a i)\/Z07 w G.F w' (λb=>if b=g then n else G.F b) g) :
  let G':Ghost:={ G with F:=λb=>if b=g then n else G.F b }
  Inv W0 M σ a w' G' xs/\((∀ i,z≠ .a i)->Z07 w G.F w' G'.F g->Calmer w G w' G') /\
   ∀ (τ:Ty) (tg:List Tag) (cs:List Value) (x:El τ) (fp:List Nat),Rp w G.F G.St G.Al τ tg cs x fp->g ∉ fp->((∀ t∈tg,t.isN=false)\/(∃ i,z= .a i)\/Z07 w G.F w' G'.F g)->Rp w' G'.F G'.St G'.Al τ tg cs x fp:=by
 intro G'
 have q:∀ b,b≠g->Z07 w G.F w' G'.F b/\G'.F b=G.F b:=by
  intro b e
  have:G'.F b=G.F b:=if_neg e
  exact ⟨Z07.of_block (f.old b e) (by rw [this];exact Nat.le_refl _),this⟩
 have W:G'.Al=G.Al:=rfl
 have E:∀ b,G.St b->b≠g:=λb e h=>by rw [h] at e;rw [(I.st g e).1] at k;cases k
 have C:∀ b,G.Al b->(∃ i,z= .a i)->b≠g:=λb e ⟨i,U⟩ h=>by rw [h] at e;exact e.1 i (by rw [k,U])
 have l:∀ {b},((∃ i,z= .a i)\/Z07 w G.F w' G'.F g)->G.Al b->Z07 w G.F w' G'.F b:=by
  intro b h e
  by_cases d:b=g
  ·rcases h with h | h
   ·exact absurd d (C b e h)
   ·rw [d];exact h
  ·exact (q b d).1
 have D:Same σ w G w' G':=
  ⟨rfl,rfl,rfl,λ_ _ h _=>h,λ_ _ h=>h,λb h=>h,λb h=>(q b (E b h)).1,λb P h B Q=>q b (λd=>by
    rw [d,k] at h;cases h
    rcases m with rfl | ⟨i,rfl,_⟩
    ·exact Q rfl
    ·exact B i rfl),λi v h=>f.old _ (λd=>by
    have K:=(I.box i v h).2
    rw [d,k] at K
    cases K
    rcases m with m | ⟨j,m,V⟩
    ·cases m
    ·cases m;rw [V] at h;cases h),T.imp id λh b _ e=>l h e⟩
 refine ⟨?_,?_,?_⟩
 ·refine I.world D (λb e=>⟨(I.st b e).1,by rw [f.size];exact (I.st b e).2⟩) (λb P e=>by rw [f.size];exact I.lt b P e) ?_ I.whoX I.nodX ⟨λb e p=> ?_,I.org.St,I.org.St'⟩
  rotate_left
  ·by_cases d:b=g
   ·rcases (I.lt g z k).2 with h | h
    ·rw [d] at e;omega
    ·exact absurd (d ▸ h) p
   ·rw [(q b d).2];exact I.org.F b e p
  refine ⟨f.os.trans I.ext.os,f.tape.trans I.ext.tape,f.output.trans I.ext.output,by rw [f.size];exact I.ext.size,λb e p=> ?_⟩
  rw [f.old b (λd=> ?_)]
  ·exact I.ext.block b e p
  ·rcases (I.lt g z k).2 with h | h
   ·rw [d] at e;omega
   ·exact p (d ▸ h)
 ·intro u R
  refine ⟨λw2 y=>⟨λb e J o L cs A B=> ?_,λi b e=> ?_⟩,λw2 y i b e=> ?_⟩
  ·have r:=l (.inr R) J
   refine y.1 b (by rw [f.size];exact e) J o L cs (Nat.le_trans A r.1) (r.2.1 o L cs A B)
  ·rw [y.2 i b e]
   exact f.old b (λd=>by rw [d,k] at e;cases e;exact u i rfl)
  ·rw [y i b e]
   exact f.old b (λd=>by rw [d,k] at e;cases e;exact u i rfl)
 ·intro τ tg cs x fp h H A
  refine h.pres D.St (λb _ h=>h) D.S (λb e=>q b (λd=>H (d ▸ e))) ?_
  exact A.imp id λh b _ e=>l h e
end
end Go.PI
namespace Go.PI
section
variable {W0:Base} {M:Nat->Prop} {σ:State} {a:Act} {w w':World} {G:Ghost} {xs:List Nat} {P:Program} {tys:List (TypeId×Ty×List TypeId)}
theorem Inv.freeze {fv:List Nat} (I:Inv W0 M σ a w G (fv++xs)) :
  ∃ G',Inv W0 M σ a w G' xs/\G'.F=G.F/\G'.ad=G.ad/\G'.Al=G.Al/\(∀ b k,G'.who b=some (.a k)↔G.who b=some (.a k))/\(∀ b,G'.St b↔G.St b\/b∈fv) /\
   (∀ (τ:Ty) (tg:List Tag) (cs:List Value) (x:El τ) (fp:List Nat),Rp w G.F G.St G.Al τ tg cs x fp->Rp w G'.F G'.St G'.Al τ tg cs x fp):=by
 classical
 let G':Ghost:={ G with St:=λb=>G.St b\/b∈fv,who:=λb=>if b∈fv then none else G.who b }
 have f:∀ b∈fv,G.who b=some .x:=λb e=>I.whoX b (List.mem_append_left _ e)
 have i:∀ b k,G'.who b=some (.a k)↔G.who b=some (.a k):=by
  intro b k
  show (if b∈fv then none else G.who b)=some (.a k)↔_
  by_cases e:b∈fv
  ·rw [f b e];simp [e]
  ·simp [e]
 have l:∀ b z,G.who b=some z->z≠ .x->G'.who b=some z:=by
  intro b z h n
  show (if b∈fv then none else G.who b)=some z
  rw [if_neg (λj=>by rw [f b j] at h;cases h;exact n rfl)]
  exact h
 have m:G'.Al=G.Al:=by
  funext b
  apply propext
  show ((∀ k,(if b∈fv then none else G.who b)≠some (.a k))/\((if b∈fv then none else G.who b)=none->(G.St b\/b∈fv)))↔_
  by_cases e:b∈fv
  ·simp only [e,if_true]
   have:=f b e
   constructor
   ·intro _;exact ⟨λk=>(by rw [this];simp),λh=>(by rw [this] at h;cases h)⟩
   ·intro _;exact ⟨λk=>(by simp),λh=>(by simp)⟩
  ·simp only [e,if_false,or_false];rfl
 have g:Same σ w G w G':=⟨rfl,rfl,rfl,l,λb _ h=>by rw [m];exact h,λb h=> .inl h,λb h=>Z07.refl _ _ _,λb z h _ _=>⟨Z07.refl _ _ _,rfl⟩,λ_ _ _=>rfl,.inr λb _ _=>Z07.refl _ _ _⟩
 refine ⟨G',?_,rfl,rfl,m,i,λb=>Iff.rfl,λτ tg cs x fp h=>h.pres g.St g.Al g.S (λb _=>⟨Z07.refl _ _ _,rfl⟩) (.inr λb _ _=>Z07.refl _ _ _)⟩
 refine I.world g (λb e=> ?_) (λb z e=> ?_) I.ext (λb e=> ?_) (List.nodup_append.1 I.nodX).2.1 ⟨I.org.F,λb e=> .inl (I.org.St b e),λb e=>e.elim (I.org.St' b) λh=> .inr (I.lt b _ (f b h)).2⟩
 ·rcases e with e | e
  ·have:=I.st b e
   refine ⟨?_,this.2⟩
   show (if b∈fv then none else G.who b)=none
   split
   ·rfl
   ·exact this.1
  ·exact ⟨if_pos e,(I.lt b _ (f b e)).1⟩
 ·change (if b∈fv then none else G.who b)=some z at e
  split at e
  ·cases e
  ·exact I.lt b z e
 ·show (if b∈fv then none else G.who b)=_
  rw [if_neg (λj=>(List.nodup_append.1 I.nodX).2.2 b j b e rfl)]
  exact I.whoX b (List.mem_append_right _ e)
def Z1o (P:Program) (W0:Base) (M:Nat->Prop) (o:Oper) (a:Act) (w:World) (G:Ghost) (xs:List Nat) (σ':State) (tv:TV) (b:Bool):Prop:=
 ∃ v w' G' fp n,(execOp a.eval o).run P w= .ok n w'/\(n= .value v\/(n= .skip/\v=undef))/\Inv W0 M σ' a w' G' (fp++xs)/\Z01 σ' G' a w' tv v fp/\(b=true->Calmer w G w' G')
section
variable {R:Type} {Γ:Env R} {d:Option Nat} {type:TypeId} {o:Oper} {k:TV->State->Option R} {r:R}
theorem Z7Q (I:Inv W0 M σ a w G xs) {x:Operand} (n:o.op= .assign x) (h:Z0M Γ d type σ k o.op=some r):∃ tv σ',k tv σ'=some r/\Z1o P W0 M o a w G xs σ' tv true:=by
 rw [n] at h
 simp only [Z0M] at h
 have b:(execOp a.eval o).run P w= .ok (.value (a.eval x)) w:=by rw [Z03 n];rfl
 have i:=Z0v I x
 have f:∀ tv,σ.peek x=tv->(∀ v ags,tv≠ .tup v ags)->k tv σ=some r->∃ tv σ',k tv σ'=some r/\Z1o P W0 M o a w G xs σ' tv true:=by
  intro tv m j B
  rw [m] at i
  exact ⟨tv,σ,B,a.eval x,w,G,[],_,b,.inl rfl,I,i j,λ_=>Calmer.refl _ _⟩
 split at h
 ·rename_i v g;exact f _ g (by simp) h
 ·rename_i p ag g
  split at h
  ·rename_i u L
   split at h
   ·rename_i v σ' ht
    obtain ⟨fp,G',q,C,Q,z,l⟩:=Z0Z I ht
    exact ⟨_,_,h,a.eval x,w,G',fp,_,b,.inl rfl,q,⟨l,z⟩,λ_=>C.calmer⟩
   ·cases h
  ·cases h
 ·rename_i g
  split at h
  ·rename_i e ht
   refine ⟨_,_,h,a.eval x,w,G,[],_,b,.inl rfl,I,?_,λ_=>Calmer.refl _ _⟩
   rw [g] at i
   obtain ⟨D,_⟩:=i (by simp)
   rw [D]
   exact ⟨rfl,.O,none,0,rfl,rfl,Nat.le_refl _,.inl ⟨rfl,rfl,rfl,rfl,rfl⟩⟩
  ·cases h
 ·cases h
 ·cases h
 ·cases h
 ·rename_i F H J K E y
  exact f _ rfl (λv ags A=>y v ags A) h
theorem Z90 (i:Nat) (tv:TV) (v:Value) (Q:Place->Value->Prop):Z1t i (TV.unpoint i (TV.loosen true i tv)) v Q:=by
 cases tv with
 | ref p ag=>
  simp only [TV.loosen]
  split
  ·trivial
  ·rename_i b;simpa [Z1t,TV.unpoint] using b
 | eref p=>
  simp only [TV.loosen]
  split
  ·trivial
  ·rename_i b;simpa [Z1t,TV.unpoint] using b
 | ptr p=>
  simp only [TV.loosen,TV.unpoint]
  split
  ·trivial
  ·rename_i b
   intro e
   simp [e] at b
 | clos f g=>
  simp only [TV.loosen,TV.unpoint]
  split
  ·trivial
  ·rename_i b
   intro k h e
   exact absurd (List.any_eq_true.2 ⟨g[k],List.getElem_mem _,by simp [e]⟩) b
 | _=>trivial
theorem Z67 {fv:List Nat} (I:Inv W0 M σ a w G (fv++xs)) {i:Nat} (q:i<σ.slots.length) {v:TVal} {t:TypeId} {c:Array Value} (L:Rp w G.F G.St G.Al v.τ v.tg c.toList v.x fv) (u:Pushed w w' (.cells c t (0,0))) :
  ∃ G',Inv W0 M (((σ.loosen true i).unpoint i).putBox i (some v)) a w' G' xs/\Calmer w G w' G' /\
   Z01 (((σ.loosen true i).unpoint i).putBox i (some v)) G' a w' (.ptr ⟨true,i,[]⟩) (.pointer (some ⟨w.heap.size,0,none⟩)) []:=by
 obtain ⟨H,C,_⟩:=I.loosen true i
 obtain ⟨l,D,_⟩:=C.unpoint i
 obtain ⟨y,e,h⟩:=D.grow u (z:= .a i) 0 (ys:=[]) (.inr ⟨⟨i,rfl⟩,rfl⟩)
 have e:Calmer w G w' (Ghost.grow { G with fs:=l } w.heap.size (.a i) 0):=((Sim.fs G l).calmer).trans e
 have p:=h _ _ _ _ _ L
 by_cases B:i<σ.boxes.length
 ·obtain ⟨G',E,K,U,J,A,n⟩:=Inv.addBox (fv:=fv) (xs:=xs) (i:=i) (g:=w.heap.size) (v:=v) y (by simpa [State.loosen,Z0b,State.unpoint,Z0b] using B) u.new (if_pos rfl) p (λj V=>by
   rw [Z5i,Z0i]
   exact Z90 _ _ _ _) (.inl (by simpa [State.loosen,Z0b,State.unpoint,Z0b] using q))
  refine ⟨G',E,e.trans ?_,⟨rfl,rfl,rfl,.inr ⟨c.toList,(w.heap.size,0),⟨v.τ,c.toList,some (w.heap.size,0),?_,?_,Z0P _ _ _ _⟩,rfl⟩⟩⟩
  ·exact ⟨λw2 m=>⟨λb f Q=>(by have:=m.1 b f (by rw [J];exact Q);rw [K] at this;exact this),λj b f=>m.2 j b ((A b j).2 f)⟩,λw2 m j b f=>m j b ((A b j).2 f)⟩
  ·rw [Z1p,Z0D]
   simp [State.loosen,Z0b,State.unpoint,Z0b,B]
  ·simp only [Z09,n,if_true,u.new]
 ·have T:((σ.loosen true i).unpoint i).putBox i (some v)=(σ.loosen true i).unpoint i:=by
   unfold State.putBox
   rw [Z6u]
   simp [State.loosen,Z0b,State.unpoint,Z0b];omega
  rw [T]
  refine ⟨_,y.sub (λb f=>by simp [f]) (List.nodup_append.1 I.nodX).2.1,e,⟨rfl,rfl,rfl,.inl ?_⟩⟩
  rw [Z1p]
  have:((σ.loosen true i).unpoint i).boxAt i=none:=Z2f _ _ (by simp [State.loosen,Z0b,State.unpoint,Z0b];omega)
  rw [this];rfl
theorem Z8l (q:Z0e P Γ.tys) (I:Inv W0 M σ a w G xs) {t:TypeId} (m:o.op= .alloc t) (h:Z0M Γ d type σ k o.op=some r):∃ tv σ',k tv σ'=some r/\Z1o P W0 M o a w G xs σ' tv true:=by
 rw [m] at h
 simp only [Z0M] at h
 split at h
 ·rename_i i τ ht
  split at h
  case isFalse=>cases h
  rename_i e
  obtain ⟨l,g,_⟩:=Z0R ht
  obtain ⟨B,z,y,C,_,_,A,j,_⟩:=(q _ _ _ g).info
  have b:(execOp a.eval o).run P w= .ok (.value (.pointer (some ⟨w.heap.size,0,none⟩))) (w.alloc (.cells z.cells t)):=by
   rw [Z03 m]
   simp [execOp,Instr.alloc,zeroValue,typeInfo,y,A,newVar,newRow]
  have p:Rp w G.F G.St G.Al τ (List.replicate (Z06 τ) .O) z.cells.toList (zero τ) []:=by rw [j];exact Z2Z τ
  obtain ⟨G',n,u,f⟩:=Z67 (fv:=[]) (i:=i) (v:=⟨τ,false,zero τ,List.replicate (Z06 τ) .O⟩) (by simpa using I) e p (Pushed.alloc w _)
  exact ⟨_,_,h,_,_,G',[],_,b,.inl rfl,by simpa using n,f,λ_=>u⟩
 ·cases h
theorem Z8w {np:Nat} {x:Operand} {τ:Ty} {i:Nat} (h:Z8v np σ x τ=some i):x= .tmp i/\∃ u,σ.slot i= .val u/\u.τ=τ:=by
 unfold Z8v at h
 split at h
 ·split at h
  ·rename_i u e
   split at h
   ·rename_i b
    simp only [Bool.and_eq_true,decide_eq_true_eq] at b
    cases h
    exact ⟨rfl,u,e,b.1.2⟩
   ·cases h
  ·cases h
 ·cases h
theorem Z9c (I:Inv W0 M σ a w G xs) {t:TypeId} {x:Operand} (L:o.op= .box t x) (h:Z0M Γ d type σ k o.op=some r):∃ tv σ',k tv σ'=some r/\Z1o P W0 M o a w G xs σ' tv true:=by
 rw [L] at h
 simp only [Z0M] at h
 split at h
 ·rename_i i τ ht
  have l:(execOp a.eval o).run P w= .ok (.value (.pointer (some ⟨w.heap.size,0,none⟩))) (w.alloc (.cells (a.eval x).cells t)):=by
   rw [Z03 L]
   simp [execOp,Instr.box,newVar,newRow]
  split at h
  ·rename_i p y
   obtain ⟨rfl,u,f,rfl⟩:=Z8w y
   have B:=I.slot p (Z0V (by rw [f];simp))
   rw [f] at B
   obtain ⟨m,A⟩:=B
   have D:a.eval (.tmp p)=a.tmps.getD p undef:=rfl
   have g:=A.len.1
   have Q:=Pushed.alloc w (.cells (a.eval (.tmp p)).cells t (0,0))
   obtain ⟨W,C,_⟩:=I.grow Q (z:= .x) (size u.τ) (ys:=[w.heap.size]) (.inl ⟨rfl,rfl⟩)
   obtain ⟨T,X,J,aa,Y,K,Z,_⟩:=W.freeze
   refine ⟨_,_,h,_,_,T,[],_,l,.inl rfl,by simpa using X,⟨rfl,rfl,w.heap.size,0,u.τ,rfl,Z1G _,g,?_,(Z _).2 (.inr (by simp)),?_⟩,λ_=>C.trans ?_⟩
   ·unfold Z05
    rw [Q.new]
    simp only []
    have e:(a.eval (.tmp p)).cells.toList=Z02 (a.tmps.getD p undef):=by rw [m.cells,D]
    have hsz:(a.eval (.tmp p)).cells.size=size u.τ:=by
     rw [<-g,<-e];simp
    rw [if_pos (by omega),e,Z4D]
   ·rw [J]
    show 0+size u.τ<=(if w.heap.size=w.heap.size then size u.τ else G.F w.heap.size)
    rw [if_pos rfl];omega
   ·exact ⟨λw2 n=>⟨λb q ha=>(by have:=n.1 b q (by rw [Y];exact ha);rw [J] at this;exact this),λj b q=>n.2 j b ((K b j).2 q)⟩,λw2 n j b q=>n j b ((K b j).2 q)⟩
  ·split at h
   ·rename_i v σ' H
    split at h
    case isFalse=>cases h
    rename_i E
    obtain ⟨fp,G1,V,B,hτ,A,m⟩:=Z0Z I H
    rw [m.cells] at A
    obtain ⟨G',U,n,f⟩:=Z67 (i:=i) (v:=v) V E A (Pushed.alloc w _)
    exact ⟨_,_,h,_,_,G',[],_,l,.inl rfl,by simpa using U,f,λ_=>B.calmer.trans n⟩
   ·cases h
 ·cases h
end
end
end Go.PI
namespace Go.PI
theorem Z8c:(css:List (List Value))->(s k:Nat)->(rest:List Value)->(b:∀ c∈css,c.length=s)->(e:k<css.length)->((css.flatten++rest).drop (k * s)).take s=css[k]
 | [],s,k,rest,b,e=>by simp at e
 | c::css,s,0,rest,b,e=>by
  have:=b c (by simp)
  simp [<-this]
 | c::css,s,k+1,rest,b,e=>by
  have f:=b c (by simp)
  simp only [List.flatten_cons,List.append_assoc,List.getElem_cons_succ]
  rw [Nat.add_mul,Nat.one_mul,Nat.add_comm,<-f,List.drop_length_add_append,f]
  exact Z8c css s k rest (λc' h=>b c' (List.mem_cons_of_mem _ h)) (by simpa using e)
theorem Z43:(css:List (List Value))->(s:Nat)->(b:∀ c∈css,c.length=s)->css.flatten.length=css.length * s
 | [],s,b=>by simp
 | c::css,s,b=>by
  simp only [List.flatten_cons,List.length_append,List.length_cons,Z43 css s (λc' h=>b c' (List.mem_cons_of_mem _ h)),b c (by simp)]
  rw [Nat.add_mul,Nat.one_mul,Nat.add_comm]
section
variable {W0:Base} {M:Nat->Prop} {σ:State} {a:Act} {w w':World} {G:Ghost} {xs:List Nat} {P:Program} {tys:List (TypeId×Ty×List TypeId)}
theorem Z3x {e:Ty} {fps:List (List Nat)} (I:Inv W0 M σ a w G (fps.flatten++xs)) {C:Array Value} {T:TypeId} {fr:Nat×Nat} (m:Pushed w w' (.cells C T fr)) (v:Z40 C fr) {t:Tag} (ht:t.own=true)
  {x:List (El e)} {css:List (List Value)} {rest:List Value} {cap:Nat} (B:C.toList=css.flatten++rest) (p:css.length=x.length) (q:fps.length=x.length) (b:x.length<=cap) (y:cap * size e<=C.size)
  (f:∀ k (h:k<x.length),Rp w G.F G.St G.Al e (List.replicate (Z06 e) t.inner) (css.getD k []) (x.get ⟨k,h⟩) (fps.getD k []))
  (u:e= .int .u8\/¬ (fr.1<=C.size/\C.size<fr.2):=by first | exact .inl rfl | exact .inr λh=>absurd h.2 (Nat.not_lt_zero _)) :
  ∃ G',Inv W0 M σ a w' G' ((w.heap.size::fps.flatten)++xs)/\Calmer w G w' G'/\Rp w' G'.F G'.St G'.Al (.slice e) [t] [.slice (some ⟨w.heap.size,0,none⟩) x.length cap] x (w.heap.size::fps.flatten)/\G'.St=G.St:=by
 obtain ⟨A,n,E⟩:=I.grow m (z:= .x) (x.length * size e) (ys:=[w.heap.size]) (.inl ⟨rfl,rfl⟩)
 have l:∀ c∈css,c.length=size e:=by
  intro c n
  obtain ⟨k,g,rfl⟩:=List.mem_iff_getElem.1 n
  have:=(f k (by omega)).len.1
  rw [List.getD_eq_getElem?_getD,List.getElem?_eq_getElem g] at this
  exact this
 refine ⟨_,A,n,?_,rfl⟩
 refine ⟨t,some ⟨w.heap.size,0,none⟩,cap,rfl,rfl,b,.inr (.inl ⟨ht,w.heap.size,0,fps,rfl,?_,rfl,q,⟨⟨C,T,fr,m.new,by omega,v⟩,u.imp id λh=>⟨C,T,fr,m.new,h⟩⟩,?_,λk g=> ?_⟩)⟩
 ·exact ⟨λi h=>(by rw [show (G.grow w.heap.size .x (x.length * size e)).who w.heap.size=some .x from if_pos rfl] at h;cases h),λh=>(by rw [show (G.grow w.heap.size .x (x.length * size e)).who w.heap.size=some .x from if_pos rfl] at h;cases h)⟩
 ·show (if w.heap.size=w.heap.size then x.length * size e else _)=_
  rw [if_pos rfl,Nat.zero_add]
 ·have j:k<css.length:=by rw [p];exact g
  refine ⟨css[k],?_,?_⟩
  ·unfold Z05
   rw [m.new]
   simp only []
   have D:(k+1) * size e<=cap * size e:=Nat.mul_le_mul_right _ (by have:k<x.length:=g;omega)
   rw [Nat.add_mul,Nat.one_mul] at D
   rw [if_pos (by omega),B,Nat.zero_add,Z8c css (size e) k rest l j]
  ·have:=E _ _ _ _ _ (f k g)
   rw [List.getD_eq_getElem?_getD,List.getElem?_eq_getElem j] at this
   exact this
theorem Z5A (z:List Value):(n:Nat)->(madeCells z.toArray (n * z.length)).toList=(List.replicate n z).flatten
 | 0=>by simp [madeCells]
 | n+1=>by
  have e:=Z5A z n
  have g:(List.range z.length).map (λi=>z.toArray[(n * z.length+i) % z.toArray.size]!)=z:=by
   apply List.ext_getElem
   ·simp
   ·intro i b f
    simp only [List.getElem_map,List.getElem_range,List.size_toArray]
    rw [Nat.mul_add_mod_self_right,Nat.mod_eq_of_lt (by simpa using b)]
    have:i<z.length:=by simpa using b
    simp [this]
  rw [List.replicate_succ',List.flatten_append,<-e]
  simp only [madeCells,Array.toList_map,Array.toList_range,List.flatten_cons,List.flatten_nil,List.append_nil]
  rw [Nat.add_mul,Nat.one_mul,List.range_add,List.map_append,List.map_map]
  congr 1
theorem Z7q {α:Type} (n k:Nat) (a d:α) (h:k<n):(List.replicate n a).getD k d=a:=by simp [List.getD_eq_getElem?_getD,h]
theorem Z27 {α:Type} (n k:Nat):(List.replicate n ([]:List α)).getD k []=[]:=by
 rcases Nat.lt_or_ge k n with h | h
 ·exact Z7q _ _ _ _ h
 ·simp [List.getD_eq_getElem?_getD,h]
theorem Z0E {α:Type} (n:Nat):(List.replicate n ([]:List α)).flatten=[]:=by induction n with
 | zero=>rfl
 | succ n b=>simp [List.replicate_succ,b]
section
variable {R:Type} {Γ:Env R} {d:Option Nat} {type:TypeId} {o:Oper} {k:TV->State->Option R} {r:R}
theorem Z6n (L:Z0e P Γ.tys) (I:Inv W0 M σ a w G xs) {t:TypeId} {n c:Operand} (U:o.op= .makeSlice t n c) (h:Z0M Γ d type σ k o.op=some r):∃ tv σ',k tv σ'=some r/\Z1o P W0 M o a w G xs σ' tv true:=by
 rw [U] at h
 simp only [Z0M] at h
 split at h
 ·cases h
 rename_i A
 split at h
 ·rename_i e m tg1 f tg2 ht Z Y
  rw [cond_eq_ite] at h
  split at h
  ·rename_i Q
   simp only [decide_eq_true_eq] at Q
   obtain ⟨u,v,K⟩:=Q
   have u: @LE.le Int Int.instLEInt 0 m:=u
   have v: @LE.le Int Int.instLEInt m f:=v
   have K: @LE.le Int Int.instLEInt f 2147483648:=K
   obtain ⟨et,le,hu,B,_⟩:=Z11 L ht (by simpa using A)
   obtain ⟨q,z,X,hs,V,_,hz,p,_⟩:=(L et _ _ B).info
   have H:z.cells.toList.length=size e:=by rw [p];exact (Z2Z (w:=w) (F:=G.F) (St:=G.St) (Al:=G.Al) e).len.1
   have D:=Z0Q I Z
   have E:=Z0Q I Y
   have l:(execOp a.eval o).run P w= .ok (.value (.slice (some ⟨w.heap.size,0,none⟩) m.toNat f.toNat)) (w.alloc (.cells (madeCells z.cells (f.toNat * size e)) et)):=by
    rw [Z03 U]
    simp only [execOp,D,E,Sem.run_bind,run_make w t et q z hu X hz .i64 .i64 m f u v (by
     have:(q.bytes:Int) * f<=65536 * f:=Int.mul_le_mul_of_nonneg_right (by omega) (by omega)
     omega) (by omega),hs,Result.andThen_ok,Sem.run_pure]
   have b:=Z5A z.cells.toList f.toNat
   rw [H] at b
   have i:f.toNat=m.toNat+(f.toNat-m.toNat):=by omega
   rw [i,<-List.replicate_append_replicate,List.flatten_append,<-i] at b
   obtain ⟨G',J,g,y,_⟩:=Z3x (e:=e) (fps:=List.replicate m.toNat []) (xs:=xs) (by rw [Z0E];exact I) (Pushed.alloc w (.cells (madeCells z.cells (f.toNat * size e)) et (0,0))) (λj hj W=>by simp at W) (t:= .O) rfl
    (x:=List.replicate m.toNat (zero e)) (css:=List.replicate m.toNat z.cells.toList) (cap:=f.toNat) b (by simp) (by simp) (by simp;omega) (by rw [size_madeCells];exact Nat.le_refl _) (λk T=>by
     have C:k<m.toNat:=by simpa using T
     rw [Z7q _ _ _ _ C,Z27,p]
     have:(List.replicate m.toNat (zero e)).get ⟨k,T⟩=zero e:=by simp
     rw [this]
     exact Z2Z e)
   rw [Z0E] at J y
   refine ⟨_,_,h,_,_,G',_,_,l,.inl rfl,J,⟨rfl,?_⟩,λ_=>g⟩
   rw [Z0q rfl]
   rw [List.length_replicate] at y
   exact y
  ·cases h
 ·cases h
end
end
end Go.PI
