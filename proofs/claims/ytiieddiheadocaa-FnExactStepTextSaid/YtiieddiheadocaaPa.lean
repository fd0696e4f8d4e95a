/-
  Plain interpretation of the program's code over typed values, and that it tells what the machine does (part 1). No conditions.
-/
import Derived.Calls
import Derived.Orders
import GoSem.Dispatch
import Derived.Laws.Append
import Derived.Laws.CopyRow
import Derived.Laws.BytesString
import Derived.Laws.Concat
import Derived.Tactics
import Derived.WideLaws
import Derived.Laws.Strings
import Derived.Laws.Cover1
set_option linter.unusedVariables false
set_option linter.unusedSimpArgs false
namespace Go.PI

inductive Ty where
  | int (k : IntKind) | bool | str | unit
  | slice (e : Ty) | pair (a b : Ty)
  deriving DecidableEq

@[reducible] def El : Ty → Type
  | .int _ => Int
  | .bool => Bool
  | .str => ByteArray
  | .unit => Unit
  | .slice e => List (El e)
  | .pair a b => El a × El b

def zero : (τ : Ty) → El τ
  | .int _ => (0 : Int)
  | .bool => false
  | .str => (⟨#[]⟩ : ByteArray)
  | .unit => ()
  | .slice _ => []
  | .pair a b => (zero a, zero b)

def size : Ty → Nat
  | .unit => 0
  | .pair a b => size a + size b
  | _ => 1

def leaves : Ty → Nat
  | .slice _ => 1
  | .pair a b => leaves a + leaves b
  | _ => 0

inductive Tag where
  | O | PS | PN | S | N
  deriving DecidableEq

def Tag.own : Tag → Bool
  | .O | .PS | .PN => true
  | _ => false
def Tag.alias : Tag → Tag
  | .S => .S
  | _ => .N
def Tag.inner : Tag → Tag
  | .O => .O
  | .PS | .S => .S
  | .PN | .N => .N
def Tag.meet : Tag → Tag → Tag
  | .O, t => t
  | t, .O => t
  | .S, .S => .S
  | _, _ => .N
def Tag.over : Tag → Tag
  | .O => .O
  | .S | .PS => .PS
  | .N | .PN => .PN
def Tag.isO : Tag → Bool
  | .O => true
  | _ => false
def Tag.isN : Tag → Bool
  | .N | .PN => true
  | _ => false
def Tag.isS : Tag → Bool
  | .S => true
  | _ => false
def Tag.freeze : Tag → Tag
  | .O | .PS | .S => .S
  | _ => .N

structure TVal where
  τ : Ty
  ag : Bool
  x : El τ
  tg : List Tag

inductive Step where
  | fst | snd | idx (i : Nat)
  deriving DecidableEq

structure Place where
  box : Bool
  root : Nat
  path : List Step
  deriving DecidableEq

inductive TV where
  | dead
  | un
  | nil
  | val (v : TVal)
  | tup (v : TVal) (ags : List Bool)
  | ref (p : Place) (ag : Bool)
  | ptr (p : Place)
  | eptr (v : TVal) (t : Tag)
  | eref (p : Place)
  | tref (t : Nat) (ags : List Bool)
  | sptr (r : Nat) (τ : Ty) (p : List Step)
  | clos (fn : FuncId) (caps : List Place)
  | sclos (fn : FuncId) (τs : List Ty) (v : TVal)

structure State where
  slots : List TV
  boxes : List (Option TVal)

def getN {α : Type} (d : α) : List α → Nat → α
  | [], _ => d
  | a :: _, 0 => a
  | _ :: l, n + 1 => getN d l n
def setN {α : Type} : List α → Nat → α → List α
  | [], _, _ => []
  | _ :: l, 0, v => v :: l
  | a :: l, n + 1, v => a :: setN l n v

def State.slot (σ : State) (i : Nat) : TV := getN .dead σ.slots i
def State.boxAt (σ : State) (i : Nat) : Option TVal := getN none σ.boxes i
def State.putBox (σ : State) (i : Nat) (v : Option TVal) : State := { σ with boxes := setN σ.boxes i v }

def castEl (τ : Ty) (v : TVal) : Option (El τ) :=
  if h : v.τ = τ then some (h ▸ v.x) else none

def tyAt : Ty → List Step → Option Ty
  | τ, [] => some τ
  | .pair a _, .fst :: p => tyAt a p
  | .pair _ b, .snd :: p => tyAt b p
  | _, _ => none

def getP : (τ : Ty) → El τ → List Tag → List Step → Option TVal
  | τ, x, tg, [] => some ⟨τ, false, x, tg⟩
  | .pair a b, x, tg, .fst :: p => getP a x.1 (tg.take (leaves a)) p
  | .pair a b, x, tg, .snd :: p => getP b x.2 (tg.drop (leaves a)) p
  | .slice e, x, tg, .idx i :: p => getP e (x.getD i (zero e)) (List.replicate (leaves e) (tg.headD .N).inner) p
  | _, _, _, _ => none

def setP : (τ : Ty) → El τ → List Tag → List Step → TVal → Option (El τ × List Tag)
  | τ, _, _, [], v => if h : v.τ = τ then some (h ▸ v.x, v.tg) else none
  | .pair a b, x, tg, .fst :: p, v => (setP a x.1 (tg.take (leaves a)) p v).map fun r => ((r.1, x.2), r.2 ++ tg.drop (leaves a))
  | .pair a b, x, tg, .snd :: p, v => (setP b x.2 (tg.drop (leaves a)) p v).map fun r => ((x.1, r.1), tg.take (leaves a) ++ r.2)
  | .slice e, x, tg, .idx i :: p, v => (setP e (x.getD i (zero e)) (List.replicate (leaves e) (tg.headD .N).inner) p v).map fun r => (x.set i r.1, tg)
  | _, _, _, _, _ => none

def flatB : List Step → Bool
  | [] => true
  | .idx _ :: _ => false
  | _ :: p => flatB p

def State.content (σ : State) (p : Place) : Option TVal :=
  match p.box with
  | true => σ.boxAt p.root
  | false => match σ.slot p.root with | .val v => some v | .tup v _ => some v | _ => none

def State.getAt (σ : State) (p : Place) : Option TVal := (σ.content p).bind fun v => getP v.τ v.x v.tg p.path

def State.setContent (σ : State) (p : Place) (v : TVal) : State :=
  match p.box with
  | true => { σ with boxes := setN σ.boxes p.root (some v) }
  | false => match σ.slot p.root with
    | .val _ => { σ with slots := setN σ.slots p.root (.val v) }
    | .tup _ ags => { σ with slots := setN σ.slots p.root (.tup v ags) }
    | _ => σ

def State.setAt (σ : State) (p : Place) (u : TVal) : Option State :=
  (σ.content p).bind fun v => (setP v.τ v.x v.tg p.path u).map fun r => σ.setContent p ⟨v.τ, v.ag, r.1, r.2⟩

def TVal.alias (v : TVal) : TVal := { v with tg := v.tg.map Tag.alias }
def TVal.anyOwn (v : TVal) : Bool := v.tg.any Tag.own
def TVal.freeze (v : TVal) : TVal := { v with tg := v.tg.map Tag.freeze }
def TVal.allS (v : TVal) : Bool := v.tg.all Tag.isS
def TVal.allO (v : TVal) : Bool := v.tg.all Tag.isO
def TVal.noN (v : TVal) : Bool := v.tg.all fun t => !t.isN

def TV.loosen (box : Bool) (root : Nat) : TV → TV
  | .ref p ag => if p.box == box && p.root == root then .dead else .ref p ag
  | .eref p => if p.box == box && p.root == root then .dead else .eref p
  | .tref t ags => if !box && t == root then .dead else .tref t ags
  | tv => tv
def State.loosen (σ : State) (box : Bool) (root : Nat) : State :=
  { σ with slots := σ.slots.map (TV.loosen box root) }
def TV.unpoint (root : Nat) : TV → TV
  | .ptr p => if p.root == root then .dead else .ptr p
  | .clos f ps => if ps.any (fun p => p.root == root) then .dead else .clos f ps
  | tv => tv
def State.unpoint (σ : State) (root : Nat) : State := { σ with slots := σ.slots.map (TV.unpoint root) }

def TV.isVal : TV → Bool
  | .val _ => true
  | _ => false
def TV.holds : TV → Bool
  | .val v => v.anyOwn
  | .tup v _ => v.anyOwn
  | _ => false
def State.put (σ : State) (i : Nat) (v : TV) : State :=
  { σ with slots := setN (σ.loosen false i).slots i v }
def TV.unmir (i : Nat) : TV → TV
  | .sptr r τ p => if r == i then .dead else .sptr r τ p
  | tv => tv
def State.unmir (σ : State) (i : Nat) : State := { σ with slots := σ.slots.map (TV.unmir i) }
def State.puto (σ : State) (d : Option Nat) (v : TV) : State := match d with | some i => (σ.unmir i).put i (TV.unmir i v) | none => σ

def scal (τ : Ty) (x : El τ) : TVal := ⟨τ, false, x, []⟩
def refTo (σ : State) (p : Place) (ag : Bool) : Option TV :=
  match σ.getAt p with
  | some u => some (if u.allS then .val { u with ag := ag } else .ref p ag)
  | none => none

def State.peek (σ : State) : Operand → TV
  | .tmp t => match σ.slot t with
    | .val v => if v.anyOwn then .ref ⟨false, t, []⟩ v.ag else .val v
    | tv => tv
  | .const (.int k n) => .val (scal (.int k) n)
  | .const (.bool b) => .val (scal .bool b)
  | .const (.string s) => .val (scal .str s)
  | .const (.slice none 0 0) => .nil
  | .func f => .clos f []
  | _ => .dead

def State.look (σ : State) (o : Operand) : Option TVal :=
  match σ.peek o with
  | .val v => some v
  | .ref p ag => (σ.getAt p).map fun u => { u.alias with ag := ag }
  | _ => none
def State.lookAs (σ : State) (o : Operand) (τ : Ty) : Option TVal :=
  match σ.peek o with
  | .nil => match τ with | .slice e => some ⟨.slice e, false, [], [.S]⟩ | _ => none
  | _ => σ.look o

def State.slotOf (σ : State) : Operand → Option (Nat × TVal)
  | .tmp t => match σ.slot t with
    | .val u => if u.anyOwn then some (t, u) else none
    | _ => none
  | _ => none
def State.take (σ : State) (o : Operand) (τ : Ty) : Option (TVal × State) :=
  match σ.peek o with
  | .nil => match τ with | .slice e => some (⟨.slice e, false, [], [.O]⟩, σ) | _ => none
  | .val v => if v.τ = τ then some (v, σ) else none
  | .ref p ag =>
    match σ.getAt p with
    | some u => if u.τ = τ then
        (if u.anyOwn && flatB p.path then (σ.setAt p u.alias).map fun σ' => ({ u with ag := ag }, σ')
         else some ({ u.alias with ag := ag }, σ))
      else none
    | none => none
  | _ => none

def TV.kill : TV → TV
  | .val v => if v.noN then .val v else .dead
  | .tup v a => if v.noN then .tup v a else .dead
  | .eptr v t => if t.isN then .dead else .eptr v t
  | tv => tv
def killBox : Option TVal → Option TVal
  | some v => if v.noN then some v else none
  | none => none
def State.kill (σ : State) : State := { slots := σ.slots.map TV.kill, boxes := σ.boxes.map killBox }

def nilB : (τ : Ty) → El τ → Bool
  | .slice e, x => List.isEmpty (α := El e) x
  | .pair a b, x => nilB a x.1 && nilB b x.2
  | _, _ => true
def nilBox : Option TVal → Option TVal
  | some v => bif v.noN then some v else bif nilB v.τ v.x then some { v with tg := v.tg.map fun _ => .S } else some v
  | none => none
def State.renil (σ : State) : State := { σ with boxes := σ.boxes.map nilBox }

def LIM : Nat := 2147483648

def tupTy : List Ty → Ty
  | [] => .unit
  | [τ] => τ
  | τ :: τs => .pair τ (tupTy τs)

inductive Mode where
  | borrow (τ : Ty) (ag : Bool) | consume (τ : Ty) (ag : Bool) | eat (τ : Ty) (ag : Bool) | inout (τ : Ty) (ag : Bool) | ptr (τ : Ty) | clos (fn : FuncId) (caps : List Ty)
  | look (τ : Ty) (ag : Bool) | rptr (τ : Ty) | rclos (fn : FuncId) (caps : List Ty)

structure Sig (R : Type) where
  modes : List Mode
  ags : List Bool
  run : List TVal → List TVal → (List TVal → List TVal → List TVal → Option R) → Option R

structure Env (R : Type) where
  tys : List (TypeId × Ty × List TypeId)
  fns : List (FuncId × Sig R)
  np : Nat := 0

def assoc {α : Type} : List (Nat × α) → Nat → Option α
  | [], _ => none
  | (m, a) :: l, n => if m == n then some a else assoc l n

def tyOf (tys : List (TypeId × Ty × List TypeId)) (t : TypeId) : Option Ty := (assoc tys t).map (·.1)
def agOf (tys : List (TypeId × Ty × List TypeId)) (t : TypeId) : Bool := match assoc tys t with | some (_, l) => !l.isEmpty | none => false
def fieldPath : (n i : Nat) → List Step
  | 0, _ => []
  | 1, _ => []
  | _ + 2, 0 => [.fst]
  | n + 2, i + 1 => .snd :: fieldPath (n + 1) i
def fieldOf (tys : List (TypeId × Ty × List TypeId)) (t : TypeId) (i : Nat) : Option (List Step) :=
  match assoc tys t with
  | some (_, l) => if i < l.length then some (fieldPath l.length i) else none
  | none => none
def fieldAg (tys : List (TypeId × Ty × List TypeId)) (t : TypeId) (i : Nat) : Bool :=
  match assoc tys t with
  | some (_, l) => agOf tys (l.getD i 0)
  | none => false

def inb (i : Int) (n : Nat) : Bool := decide (0 ≤ i ∧ i < (n : Int))
def cutb (i j : Int) (n : Nat) : Bool := decide (0 ≤ i ∧ i ≤ j ∧ j ≤ (n : Int))
def sub {α : Type} (l : List α) (i j : Int) : List α := (l.take j.toNat).drop i.toNat
def bt (s : ByteArray) (i : Int) : Int := ((s.data.toList.getD i.toNat 0).toNat : Int)
def ofBytes (l : List Int) : ByteArray := ⟨(l.map fun n => UInt8.ofNat n.toNat).toArray⟩
def toBytes (s : ByteArray) : List Int := s.data.toList.map fun b => (b.toNat : Int)
def mxI (m n : Int) : Int := if n > m then n else m
def mnI (m n : Int) : Int := if n < m then n else m
def lim (n : Nat) : Bool := decide (n ≤ LIM)

def eqEl : (τ : Ty) → El τ → El τ → Option Bool
  | .int _, a, b => some ((a : Int) == b)
  | .bool, a, b => some ((a : Bool) == b)
  | .str, a, b => some (ByteArray.toList a == ByteArray.toList b)
  | .unit, _, _ => none
  | .slice _, _, _ => none
  | .pair s t, a, b => match eqEl s a.1 b.1, eqEl t a.2 b.2 with | some p, some q => some (p && q) | _, _ => none

def binI (op : BinOp) (k : IntKind) (a b : Int) : Option (Bool × TVal) :=
  match op with
  | .add => some (true, scal (.int k) (k.wrap (a + b)))
  | .sub => some (true, scal (.int k) (k.wrap (a - b)))
  | .mul => some (true, scal (.int k) (k.wrap (a * b)))
  | .quo => some (!decide (b = 0), scal (.int k) (k.wrap (a.tdiv b)))
  | .rem => some (!decide (b = 0), scal (.int k) (a.tmod b))
  | .and => some (true, scal (.int k) (k.wrap ((BitVec.ofInt k.bits a &&& BitVec.ofInt k.bits b).toNat)))
  | .or => some (true, scal (.int k) (k.wrap ((BitVec.ofInt k.bits a ||| BitVec.ofInt k.bits b).toNat)))
  | .xor => some (true, scal (.int k) (k.wrap ((BitVec.ofInt k.bits a ^^^ BitVec.ofInt k.bits b).toNat)))
  | .eql => some (true, scal .bool (a == b))
  | .neq => some (true, scal .bool (a != b))
  | .lss => some (true, scal .bool (decide (a < b)))
  | .leq => some (true, scal .bool (decide (a ≤ b)))
  | .gtr => some (true, scal .bool (decide (a > b)))
  | .geq => some (true, scal .bool (decide (a ≥ b)))
  | _ => none
def binS (op : BinOp) (a b : ByteArray) : Option (Bool × TVal) :=
  match op with
  | .add => some (lim (a.size + b.size), scal .str (a ++ b))
  | .eql => some (true, scal .bool (a.toList == b.toList))
  | .neq => some (true, scal .bool (!(a.toList == b.toList)))
  | .lss => some (true, scal .bool (Op.bytesLess a.toList b.toList))
  | .leq => some (true, scal .bool (Op.bytesLess a.toList b.toList || a.toList == b.toList))
  | .gtr => some (true, scal .bool (!(Op.bytesLess a.toList b.toList || a.toList == b.toList)))
  | .geq => some (true, scal .bool (!(Op.bytesLess a.toList b.toList)))
  | _ => none
def binV (tys : List (TypeId × Ty × List TypeId)) (t : TypeId) (op : BinOp) (u v : TVal) : Option (Bool × TVal) :=
  match op, u, v with
  | .shl, ⟨.int a, false, m, _⟩, ⟨.int _, false, n, _⟩ => some (!decide ((n : Int) < 0), scal (.int a) (a.wrap ((m : Int) * 2 ^ min (Int.toNat n) a.bits)))
  | .shr, ⟨.int a, false, m, _⟩, ⟨.int _, false, n, _⟩ => some (!decide ((n : Int) < 0), scal (.int a) (Int.fdiv m (2 ^ min (Int.toNat n) a.bits)))
  | op, ⟨.int a, false, m, _⟩, ⟨.int b, false, n, _⟩ => if a = b then binI op a m n else none
  | op, ⟨.str, false, a, _⟩, ⟨.str, false, b, _⟩ => binS op a b
  | .eql, ⟨.bool, false, a, _⟩, ⟨.bool, false, b, _⟩ => if tyOf tys t = some .bool ∧ agOf tys t = false then some (true, scal .bool ((a : Bool) == b)) else none
  | .neq, ⟨.bool, false, a, _⟩, ⟨.bool, false, b, _⟩ => if tyOf tys t = some .bool ∧ agOf tys t = false then some (true, scal .bool (!((a : Bool) == b))) else none
  | _, _, _ => none

def eqOk (tys : List (TypeId × Ty × List TypeId)) : Nat → TypeId → Bool
  | 0, _ => false
  | n + 1, t => match assoc tys t with
    | some (.int _, []) => true
    | some (.bool, []) => true
    | some (.str, []) => true
    | some (_, a :: l) => eqOk tys n a && l.all (eqOk tys n)
    | _ => false
def eqV (tys : List (TypeId × Ty × List TypeId)) (t : TypeId) (op : BinOp) (u v : TVal) : Option (Bool × TVal) :=
  if eqOk tys 20 t && agOf tys t && decide (tyOf tys t = some u.τ) then
    (if h : v.τ = u.τ then
      (match eqEl u.τ u.x (h ▸ v.x) with
       | some b => (match op with
         | .eql => some (true, scal .bool b)
         | .neq => some (true, scal .bool (!b))
         | _ => none)
       | none => none)
     else none)
  else none

def asInt : TVal → Option Int
  | ⟨.int .i64, false, n, _⟩ => some n
  | ⟨.int .u8, false, n, _⟩ => some n
  | _ => none

def bound (σ : State) (o : Option Operand) (d : Int) : Option Int :=
  match o with
  | none => some d
  | some o => match σ.look o with | some v => asInt v | none => none

def softV (tys : List (TypeId × Ty × List TypeId)) (σ : State) : Op → Option (Bool × TV)
  | .move x => match σ.peek x with | .dead => none | .un => none | .tup _ ags => (match x with | .tmp t => some (true, .tref t ags) | _ => none) | tv => some (true, tv)
  | .unOp .neg _ x => match σ.look x with | some ⟨.int a, false, n, _⟩ => some (true, .val (scal (.int a) (a.wrap (0 - n)))) | _ => none
  | .unOp .not _ x => match σ.look x with | some ⟨.bool, false, b, _⟩ => some (true, .val (scal .bool (!b))) | _ => none
  | .binOp op t x y _ => match σ.look x, σ.look y with | some u, some v => (if u.ag && v.ag then eqV tys t op u v else binV tys t op u v).map fun r => (r.1, .val r.2) | _, _ => none
  | .convert s t x =>
    if agOf tys s || agOf tys t then none else
    match tyOf tys s, tyOf tys t, σ.look x with
    | some (.int _), some (.int j), some ⟨.int _, false, n, _⟩ => some (true, .val (scal (.int j) (j.wrap n)))
    | some .str, some .str, some ⟨.str, false, b, _⟩ => some (true, .val (scal .str b))
    | some (.slice (.int .u8)), some .str, some ⟨.slice (.int .u8), false, l, _⟩ => some (true, .val (scal .str (ofBytes l)))
    | _, _, _ => none
  | .nilCheck x => match σ.peek x with
    | .ptr p => if (σ.getAt p).isSome then some (true, .ptr p) else none
    | .eptr v t => some (true, .eptr v t)
    | .eref p => if (σ.getAt p).isSome then some (true, .eref p) else none
    | .clos f ps => some (true, .clos f ps)
    | .sptr r τ p => some (true, .sptr r τ p)
    | .sclos f τs v => some (true, .sclos f τs v)
    | _ => none
  | .makeFunc (.func f) first caps =>
    if first.isEmpty then
      (match (caps.toList.map σ.peek).foldr (fun tv acc => match tv, acc with | .ptr p, some l => some (p :: l) | _, _ => none) (some []) with
       | some l => some (true, .clos f l)
       | none => none)
    else none
  | .load t x =>
    match tyOf tys t, σ.peek x with
    | some τ, .ptr p => match σ.getAt p with
      | some v => if v.τ = τ then (refTo σ p (agOf tys t)).map fun tv => (true, tv) else none
      | none => none
    | some τ, .eref p => match σ.getAt p with
      | some v => if v.τ = τ then (refTo σ p (agOf tys t)).map fun tv => (true, tv) else none
      | none => none
    | some τ, .eptr v _ => if v.τ = τ then some (true, .val { v.alias with ag := agOf tys t }) else none
    | some τ, .sptr r τr p => match σ.slot r with
      | .val c => if c.τ = τr then (match σ.getAt ⟨false, r, p⟩ with
        | some v => if v.τ = τ then (refTo σ ⟨false, r, p⟩ (agOf tys t)).map fun tv => (true, tv) else none
        | none => none) else none
      | _ => none
    | _, _ => none
  | .slice t x lo hi none =>
    match tyOf tys t, σ.look x with
    | some .str, some ⟨.str, false, s, _⟩ =>
      if agOf tys t then none else (match bound σ lo 0, bound σ hi (ByteArray.size s) with
       | some i, some j => some (cutb i j (ByteArray.size s), .val (scal .str (ByteArray.extract s i.toNat j.toNat)))
       | _, _ => none)
    | some (.slice e'), some ⟨.slice e, false, l, tg⟩ =>
      if e' = e ∧ agOf tys t = false then
        (match bound σ lo 0, bound σ hi (List.length (α := El e) l) with
         | some i, some j => some (cutb i j (List.length (α := El e) l), .val ⟨.slice e, false, sub (α := El e) l i j, tg⟩)
         | _, _ => none)
      else none
    | _, _ => none
  | .fieldAddr t x i =>
    match fieldOf tys t i, σ.peek x with
    | some q, .ptr p => (match σ.getAt p with
      | some u => if tyOf tys t = some u.τ then some (true, .ptr { p with path := p.path ++ q }) else none
      | none => none)
    | some q, .eref p => (match σ.getAt p with
      | some u => if tyOf tys t = some u.τ then some (true, .eref { p with path := p.path ++ q }) else none
      | none => none)
    | some q, .eptr v g => if tyOf tys t = some v.τ then (getP v.τ v.x v.tg q).map fun u => (true, .eptr u g) else none
    | some q, .sptr r τr p => if tyOf tys t = tyAt τr p then some (true, .sptr r τr (p ++ q)) else none
    | _, _ => none
  | .field t x i =>
    match fieldOf tys t i, σ.peek x with
    | some q, .ref p true => (match σ.getAt p with
      | some u => if tyOf tys t = some u.τ then (refTo σ { p with path := p.path ++ q } (fieldAg tys t i)).map fun tv => (true, tv) else none
      | none => none)
    | some q, .val ⟨τ, true, y, tg⟩ => if tyOf tys t = some τ then (getP τ y tg q).map fun u => (true, .val { u with ag := fieldAg tys t i }) else none
    | _, _ => none
  | .indexAddr t x i =>
    match tyOf tys t, σ.peek x, σ.look i with
    | some (.slice e'), .ref p false, some n => match σ.getAt p, asInt n with
      | some ⟨.slice e, _, l, _⟩, some n => if e' = e ∧ agOf tys t = false then some (inb n (List.length (α := El e) l), .eref { p with path := p.path ++ [.idx n.toNat] }) else none
      | _, _ => none
    | some (.slice e'), .val ⟨.slice e, false, l, tg⟩, some n => match asInt n with
      | some n => if e' = e ∧ agOf tys t = false then some (inb n (List.length (α := El e) l), .eptr ⟨e, false, List.getD (α := El e) l n.toNat (zero e), List.replicate (leaves e) (tg.headD .N).inner⟩ (tg.headD .N)) else none
      | none => none
    | _, _, _ => none
  | .index t x i =>
    match tyOf tys t, σ.look x, σ.look i with
    | some .str, some ⟨.str, false, s, _⟩, some n => match asInt n with
      | some n => if agOf tys t then none else some (inb n (ByteArray.size s), .val (scal (.int .u8) (bt s n)))
      | none => none
    | _, _, _ => none
  | .extract (.tmp t) i =>
    match σ.slot t with
    | .tup v ags => if i < ags.length then (refTo σ ⟨false, t, fieldPath ags.length i⟩ (getN false ags i)).map fun tv => (true, tv) else none
    | .tref t' ags => if i < ags.length then (refTo σ ⟨false, t', fieldPath ags.length i⟩ (getN false ags i)).map fun tv => (true, tv) else none
    | _ => none
  | .call c =>
    match c.callee, c.args.toList, c.argTypes.toList with
    | .builtin .len, [x], [t] =>
      (match tyOf tys t, σ.look x with
       | some .str, some ⟨.str, false, s, _⟩ => if agOf tys t then none else some (true, .val (scal (.int .i64) (ByteArray.size s : Int)))
       | some (.slice _), some ⟨.slice e, false, l, _⟩ => if agOf tys t then none else some (true, .val (scal (.int .i64) ((List.length (α := El e) l : Nat) : Int)))
       | _, _ => none)
    | .builtin .max, [x, y], _ =>
      (match σ.look x, σ.look y with
       | some ⟨.int a, false, m, _⟩, some ⟨.int b, false, n, _⟩ => if a = b then some (true, .val (scal (.int a) (mxI m n))) else none
       | _, _ => none)
    | .builtin .min, [x, y], _ =>
      (match σ.look x, σ.look y with
       | some ⟨.int a, false, m, _⟩, some ⟨.int b, false, n, _⟩ => if a = b then some (true, .val (scal (.int a) (mnI m n))) else none
       | _, _ => none)
    | _, _, _ => none
  | _ => none

def softB (tys : List (TypeId × Ty × List TypeId)) : Op → Bool
  | .move _ | .unOp .. | .binOp .. | .nilCheck _ | .makeFunc .. | .load .. | .slice .. | .fieldAddr .. | .field .. | .indexAddr .. | .index .. | .extract .. => true
  | .convert _ t _ => match tyOf tys t with | some (.slice _) => false | _ => true
  | .call c => match c.callee with | .builtin .len | .builtin .max | .builtin .min => true | _ => false
  | _ => false

section
variable {R : Type}

def fillC (n : Nat) : List (Nat × Operand) → TVal → State → (TVal → State → Option R) → Option R
  | [], v, σ, k => k v σ
  | (i, o) :: rest, v, σ, k =>
    match getP v.τ v.x v.tg (fieldPath n i) with
    | some u => match σ.take o u.τ with
      | some (w, σ') => match setP v.τ v.x v.tg (fieldPath n i) w with
        | some r => fillC n rest ⟨v.τ, v.ag, r.1, r.2⟩ σ' k
        | none => none
      | none => none
    | none => none

def innerTag (v : TVal) : Tag := v.tg.foldr Tag.meet .O

def rowC (e : Ty) : List (Nat × Operand) → Nat → List (El e) → Tag → State → (List (El e) → Tag → State → Option R) → Option R
  | [], _, acc, t, σ, k => k acc.reverse t σ
  | (j, o) :: rest, i, acc, t, σ, k =>
    if i == j then
      match σ.take o e with
      | some (v, σ') => match castEl e v with
        | some x => rowC e rest (i + 1) (x :: acc) (t.meet (innerTag v)) σ' k
        | none => none
      | none => none
    else none

def appendC (tys : List (TypeId × Ty × List TypeId)) (sT xT : TypeId) (s x : Operand) (σ : State) (k : TV → State → Option R) : Option R :=
  match tyOf tys sT with
  | some (.slice e) =>
    match σ.take s (.slice e) with
    | some (v, σ1) =>
      match castEl (.slice e) v, v.tg with
      | some l, [t] =>
        if t.own && !v.ag && !agOf tys sT then
          match tyOf tys xT with
          | some (.slice e') =>
            match σ1.take x (.slice e) with
            | some (u, σ2) => match castEl (.slice e) u, u.tg with
              | some m, [t'] => if u.ag || agOf tys xT then none else
                  bif lim (List.length (α := El e) l + List.length (α := El e) m) then
                  k (.val ⟨.slice e, false, (l : List (El e)) ++ m, [(if leaves e == 0 then Tag.O else t.inner.meet t'.inner).over]⟩) σ2 else none
              | _, _ => none
            | none => none
          | some .str =>
            match σ1.look x with
            | some ⟨.str, false, s, _⟩ => if agOf tys xT then none else (match castEl (.slice e) ⟨.slice (.int .u8), false, toBytes s, []⟩ with
              | some m => bif lim (List.length (α := El e) l + ByteArray.size s) then k (.val ⟨.slice e, false, (l : List (El e)) ++ m, [.O]⟩) σ1 else none
              | none => none)
            | _ => none
          | _ => none
        else none
      | _, _ => none
    | none => none
  | _ => none

structure Args where
  vals : List TVal
  lent : List Nat
  writes : Bool

def Place.whole (p : Place) : Bool := p.box && p.path.isEmpty

def argsC : List Mode → List Operand → State → Args → (Args → State → Option R) → Option R
  | [], [], σ, a, k => k a σ
  | .borrow τ ag :: ms, o :: os, σ, a, k =>
    match σ.slotOf o with
    | some (t, u) =>
      if u.τ = τ ∧ u.ag = ag then argsC ms os { σ with slots := setN σ.slots t (.val u.freeze) } { a with vals := a.vals ++ [u.freeze] } k
      else none
    | none =>
      match σ.lookAs o τ with
      | some v => if v.τ = τ ∧ v.ag = ag then argsC ms os σ { a with vals := a.vals ++ [v] } k else none
      | none => none
  | .consume τ ag :: ms, o :: os, σ, a, k =>
    match σ.take o τ with
    | some (v, σ') => if v.tg.all Tag.own && v.noN && v.ag == ag then argsC ms os σ' { a with vals := a.vals ++ [v], writes := true } k else none
    | none => none
  | .eat τ ag :: ms, o :: os, σ, a, k =>
    match σ.take o τ with
    | some (v, σ') => if v.allO && v.ag == ag then argsC ms os σ' { a with vals := a.vals ++ [v], writes := true } k else none
    | none => none
  | .ptr τ :: ms, o :: os, σ, a, k =>
    match σ.peek o with
    | .ptr p => if p.whole then argsC ms os σ { a with lent := a.lent ++ [p.root], writes := true } k else none
    | _ => none
  | .clos f τs :: ms, o :: os, σ, a, k =>
    match σ.peek o with
    | .clos g ps => if g == f && ps.length == τs.length && ps.all Place.whole then argsC ms os σ { a with lent := a.lent ++ ps.map (·.root), writes := a.writes || !ps.isEmpty } k else none
    | _ => none
  | _, _, _, _, _ => none

def State.boxesAt (σ : State) : List Nat → Option (List TVal)
  | [] => some []
  | r :: rs => match σ.boxAt r, σ.boxesAt rs with | some v, some l => some (v :: l) | _, _ => none
def State.putBoxes (σ : State) : List Nat → List TVal → State
  | r :: rs, v :: vs => ((σ.loosen true r).putBox r (some v)).putBoxes rs vs
  | _, _ => σ
def nodupB : List Nat → Bool
  | [] => true
  | a :: l => !l.contains a && nodupB l

def Tag.back (stable : Bool) : Tag → Tag
  | .O => .O
  | .PS => if stable then .PS else .PN
  | .PN => .PN
  | .S => if stable then .S else .N
  | .N => .N
def TVal.back (stable : Bool) (v : TVal) : TVal := { v with tg := v.tg.map (Tag.back stable) }
def frozenAll (fz : Bool) (l : List TVal) : List TVal := if !fz && l.all TVal.noN then l else l.map fun v => { v with tg := v.tg.map fun _ => Tag.S }
def tupOf : List TVal → TVal
  | [] => scal .unit ()
  | [v] => v
  | v :: vs => let u := tupOf vs; ⟨.pair v.τ u.τ, false, (v.x, u.x), v.tg ++ u.tg⟩

def Mode.isPtr : Mode → Bool
  | .ptr _ => true
  | _ => false
def Mode.isBorrow : Mode → Bool
  | .borrow .. => true
  | _ => false

def Mode.noLend : Mode → Bool
  | .borrow .. | .eat .. | .consume .. => true
  | _ => false
def Mode.isSee : Mode → Bool
  | .look .. => true
  | _ => false
def Mode.isLook : Mode → Bool
  | .look .. | .rptr _ | .rclos .. => true
  | _ => false

def still (τ : Ty) (x : El τ) : TVal := ⟨τ, false, x, List.replicate (leaves τ) .S⟩
def splitV : List Ty → (τ : Ty) → El τ → Option (List TVal)
  | [], _, _ => some []
  | [τ'], τ, x => if τ = τ' then some [still τ x] else none
  | τ' :: τ'' :: τs, .pair a b, x => if a = τ' then (splitV (τ'' :: τs) b x.2).map fun l => still a x.1 :: l else none
  | _, _, _ => none
def joinV : List TVal → TVal
  | [] => scal .unit ()
  | [v] => still v.τ v.x
  | v :: vs => let u := joinV vs; still (.pair v.τ u.τ) (v.x, u.x)

def State.ptrVal (σ : State) (o : Operand) : Option TVal :=
  match σ.peek o with
  | .ptr p => σ.getAt p
  | .eref p => σ.getAt p
  | .eptr u _ => some u
  | _ => none
def State.placesVal (σ : State) : List Place → Option (List TVal)
  | [] => some []
  | p :: ps => match σ.getAt p, σ.placesVal ps with | some v, some l => some (v :: l) | _, _ => none

def argsR : List Mode → List Operand → State → Option (List TVal)
  | [], [], _ => some []
  | .look τ ag :: ms, o :: os, σ =>
    match σ.lookAs o τ with
    | some v => if v.τ = τ ∧ v.ag = ag then (argsR ms os σ).map fun l => v :: l else none
    | none => none
  | .rptr τ :: ms, o :: os, σ =>
    match σ.ptrVal o with
    | some v => if v.τ = τ then (argsR ms os σ).map fun l => v :: l else none
    | none => none
  | .rclos f τs :: ms, o :: os, σ =>
    match σ.peek o with
    | .clos g ps => (match σ.placesVal ps with
      | some vs => if g == f && decide (vs.map (·.τ) = τs) then (argsR ms os σ).map fun l => joinV vs :: l else none
      | none => none)
    | .sclos g τs' v => if g == f && decide (τs' = τs) then (argsR ms os σ).map fun l => v :: l else none
    | _ => none
  | _, _, _ => none

def capsOk : List Mode → List TVal → Bool
  | [], [] => true
  | .rptr τ :: ms, v :: vs => decide (v.τ = τ) && capsOk ms vs
  | _, _ => false

def callR (sig : Sig R) (os : List Operand) (cvs : List TVal) (σ : State) (k : TV → State → Option R) : Option R :=
  match argsR (sig.modes.take os.length) os σ with
  | some vals => if capsOk (sig.modes.drop os.length) cvs then sig.run (vals ++ cvs) [] fun res ios ext' =>
      if ios.isEmpty && ext'.isEmpty && res.all (fun v => leaves v.τ == 0) then
        (match res with
         | [] => k .dead σ
         | [r] => k (.val r) σ
         | rs => k (.tup (tupOf rs) (rs.map (·.ag))) σ) else none
    else none
  | none => none

def callC (sig : Sig R) (os : List Operand) (ps : List Place) (σ : State) (k : TV → State → Option R) : Option R :=
  if (sig.modes.drop os.length).length == ps.length && (sig.modes.drop os.length).all Mode.isPtr && ps.all Place.whole then
  argsC (sig.modes.take os.length) os σ ⟨[], [], !ps.isEmpty⟩ fun a σ1 =>
    let lent := a.lent ++ ps.map (·.root)
    if nodupB lent && (!a.writes || a.vals.all fun v => v.noN) then
      match σ1.boxesAt lent with
      | some ext => if ext.all TVal.noN then sig.run a.vals ext fun res ios ext' =>
          let stable := a.writes || a.vals.all TVal.noN
          let σ2 := if a.writes then σ1.renil.kill else σ1
          let σ4 := σ2.putBoxes lent ext'
          if ios.isEmpty then
            (match res.map (TVal.back stable) with
             | [] => k .dead σ4
             | [r] => k (.val r) σ4
             | rs => k (.tup (tupOf rs) (rs.map (·.ag))) σ4) else none
        else none
      | none => none
    else none
  else none

def pinOf (np : Nat) (σ : State) (x : Operand) (τ : Ty) : Option Nat :=
  match x with
  | .tmp r => match σ.slot r with
    | .val u => if decide (r < np) && decide (u.τ = τ) && u.anyOwn then some r else none
    | _ => none
  | _ => none

def State.empty (σ : State) (i : Nat) : State := σ.put i .dead
def State.hold (σ : State) (p : Place) : State :=
  match p.box with
  | true => (σ.loosen true p.root).putBox p.root none
  | false => σ.empty p.root
def State.refill (σ : State) (p : Place) (v : TVal) : State :=
  match p.box with
  | true => (σ.loosen true p.root).putBox p.root (some v)
  | false => σ.put p.root (.val v)

def looksC : List Mode → List Operand → State → Option (List TVal)
  | [], [], _ => some []
  | .borrow τ ag :: ms, o :: os, σ =>
    match σ.look o with
    | some v => if decide (v.τ = τ) && v.ag == ag && leaves τ == 0 then (looksC ms os σ).map fun l => v :: l else none
    | none => none
  | _, _, _ => none

def callIo (sig : Sig R) (τ : Ty) (ag : Bool) (ms : List Mode) (o : Operand) (os : List Operand) (σ : State) (k : TV → State → Option R) : Option R :=
  match σ.peek o with
  | .ref p ag' =>
    match σ.content p, σ.getAt p, looksC ms os σ with
    | some c, some u, some vs =>
      if decide (u.τ = τ) && ag' == ag && c.allO && u.allO && (p.box || (σ.slot p.root).isVal) then
        sig.run ({ u with ag := ag } :: vs) [] fun res ios ext' =>
          match ios with
          | [u'] => (match setP c.τ c.x c.tg p.path u' with
            | some r => let σ5 := (σ.hold p).kill.refill p ⟨c.τ, c.ag, r.1, r.2⟩
              (match res with
               | [] => k .dead σ5
               | [r] => k (.val r) σ5
               | rs => k (.tup (tupOf rs) (rs.map (·.ag))) σ5)
            | none => none)
          | _ => none
      else none
    | _, _, _ => none
  | _ => none

def hardC (Γ : Env R) (d : Option Nat) (type : TypeId) (σ : State) (k : TV → State → Option R) : Op → Option R
  | .assign x =>
    match σ.peek x with
    | .val v => k (.val v) σ
    | .ref p ag => (match σ.getAt p with
      | some u => (match σ.take x u.τ with
        | some (v, σ') => k (.val v) σ'
        | none => none)
      | none => none)
    | .nil => (match tyOf Γ.tys type with
      | some (.slice e) => k (.val ⟨.slice e, false, [], [.O]⟩) σ
      | _ => none)
    | .dead => none
    | .un => none
    | .tup .. => none
    | tv => k tv σ
  | .alloc t =>
    match d, tyOf Γ.tys t with
    | some i, some τ => if i < σ.slots.length then k (.ptr ⟨true, i, []⟩) (((σ.loosen true i).unpoint i).putBox i (some ⟨τ, false, zero τ, List.replicate (leaves τ) .O⟩)) else none
    | _, _ => none
  | .box t x =>
    match d, tyOf Γ.tys t with
    | some i, some τ => match pinOf Γ.np σ x τ with
      | some r => k (.sptr r τ []) σ
      | none => match σ.take x τ with
        | some (v, σ') => if i < σ'.slots.length then k (.ptr ⟨true, i, []⟩) (((σ'.loosen true i).unpoint i).putBox i (some v)) else none
        | none => none
    | _, _ => none
  | .build t ps =>
    match assoc Γ.tys t with
    | some (τ, l) => if l.isEmpty || !(ps.toList.all fun p => decide (p.1 < l.length)) then none else fillC l.length ps.toList ⟨τ, true, zero τ, List.replicate (leaves τ) .O⟩ σ fun v σ' => k (.val v) σ'
    | none => none
  | .buildSlice t n ps =>
    match tyOf Γ.tys t with
    | some (.slice e) => if ps.size == n && !agOf Γ.tys t && decide (n * size e ≤ 16777216) then rowC e ps.toList 0 [] .O σ fun l tg σ' => k (.val ⟨.slice e, false, l, [tg.over]⟩) σ' else none
    | _ => none
  | .store t a x =>
    match tyOf Γ.tys t, σ.peek a with
    | some τ, .ptr p => match σ.take x τ with
      | some (v, σ') => (match (σ'.loosen true p.root).setAt p v with
        | some σ'' => k .dead σ''
        | none => none)
      | none => none
    | some τ, .eref p => match σ.take x τ with
      | some (v, σ') => if v.allO && !flatB p.path && (p.box || (σ'.slot p.root).isVal) then
          (match (σ'.content p) with
           | some r => if r.allO then
               (match ((σ'.loosen p.box p.root).kill.setAt p v) with
                | some σ'' => k .dead σ''
                | none => none) else none
           | none => none) else none
      | none => none
    | _, _ => none
  | .convert s t x =>
    if agOf Γ.tys s || agOf Γ.tys t then none else
    match tyOf Γ.tys s, tyOf Γ.tys t, σ.look x with
    | some .str, some (.slice (.int .u8)), some ⟨.str, false, b, _⟩ => bif lim (ByteArray.size b) then k (.val ⟨.slice (.int .u8), false, toBytes b, [.O]⟩) σ else none
    | _, _, _ => none
  | .makeSlice t n c =>
    if agOf Γ.tys t then none else
    match tyOf Γ.tys t, σ.look n, σ.look c with
    | some (.slice e), some ⟨.int .i64, false, m, _⟩, some ⟨.int .i64, false, m', _⟩ =>
      bif decide ((0 : Int) ≤ m ∧ (m : Int) ≤ m' ∧ (m' : Int) ≤ (LIM : Int)) then k (.val ⟨.slice e, false, List.replicate (Int.toNat m) (zero e), [.O]⟩) σ else none
    | _, _, _ => none
  | .call c =>
    match c.callee with
    | .builtin .append =>
      (match c.args.toList, c.argTypes.toList with
       | [s, x], [sT, xT] => appendC Γ.tys sT xT s x σ k
       | _, _ => none)
    | .value f =>
      (match σ.peek f with
       | .clos g ps => (match assoc Γ.fns g with
         | some sig => if sig.modes.all Mode.isLook && !sig.modes.isEmpty then
             (match σ.placesVal ps with
              | some vs => callR sig c.args.toList vs σ k
              | none => none)
           else (match sig.modes, c.args.toList, ps with
           | .inout τ ag :: ms, o :: os, [] => callIo sig τ ag ms o os σ k
           | _, os, ps => callC sig os ps σ k)
         | none => none)
       | .sclos g τs v => (match assoc Γ.fns g, splitV τs v.τ v.x with
         | some sig, some vs => if sig.modes.all Mode.isLook && !sig.modes.isEmpty then callR sig c.args.toList vs σ k else none
         | _, _ => none)
       | _ => none)
    | _ => none
  | _ => none

def opC (Γ : Env R) (d : Option Nat) (type : TypeId) (σ : State) (k : TV → State → Option R) (op : Op) : Option R :=
  match softV Γ.tys σ op with
  | some (g, tv) => bif g then k tv σ else none
  | none => hardC Γ d type σ k op

def oneC (Γ : Env R) (o : Oper) (σ : State) (k : State → Option R) : Option R :=
  match o.op with
  | .pick c a b =>
    match σ.look c with
    | some ⟨.bool, false, t, _⟩ =>
      bif t then (match softV Γ.tys σ (.move a) with | some (_, tv) => k (σ.puto o.dst tv) | none => none)
      else (match softV Γ.tys σ (.move b) with | some (_, tv) => k (σ.puto o.dst tv) | none => none)
    | _ => none
  | op => opC Γ o.dst o.type σ (fun tv σ' => k (σ'.puto o.dst tv)) op

def State.know (σ : State) (g : Nat) (b : Bool) : State := { σ with slots := setN σ.slots g (.val (scal .bool b)) }

def okDst (np : Nat) (d : Option Nat) : Bool := match d with | some i => decide (np ≤ i) | none => true

def guardC (Γ : Env R) (all : List Oper) (o : Oper) (σ : State) (k : State → Option R) : Option R :=
  if okDst Γ.np o.dst then
    match o.guard with
    | none => oneC Γ o σ k
    | some (j, want) =>
      match (all[j]?).bind (·.dst) with
      | some g =>
        match σ.slot g with
        | .val ⟨.bool, false, b, _⟩ =>
          bif b then (if want then oneC Γ o (σ.know g true) k else k ((σ.know g true).puto o.dst .un))
          else (if want then k ((σ.know g false).puto o.dst .un) else oneC Γ o (σ.know g false) k)
        | .un => k (σ.puto o.dst .un)
        | _ => none
      | none => none
  else none

def runC (Γ : Env R) (all : List Oper) : List Nat → State → (State → Option R) → Option R
  | [], σ, k => k σ
  | i :: rest, σ, k =>
    match all[i]? with
    | some o => guardC Γ all o σ fun σ' => runC Γ all rest σ' k
    | none => none

def tameB (Γ : Env R) (op : Op) : Bool :=
  match op with
  | .store .. => false
  | .call c => match c.callee with
    | .value (.func f) => match assoc Γ.fns f with
      | some sig => sig.modes.all Mode.isBorrow || (sig.modes.all Mode.isSee && !sig.modes.isEmpty)
      | none => false
    | .value _ => false
    | _ => true
  | _ => true

def halfB (Γ : Env R) (op : Op) : Bool :=
  match op with
  | .store .. => false
  | .call c => match c.callee with
    | .value (.func f) => match assoc Γ.fns f with
      | some sig => sig.modes.all Mode.noLend || (sig.modes.all Mode.isSee && !sig.modes.isEmpty)
      | none => false
    | .value _ => false
    | _ => true
  | _ => true
def bsoft (σ : State) : Op → Bool
  | .load _ x => match σ.peek x with | .ptr _ => true | _ => false
  | .convert _ _ x => match σ.peek x with | .val ⟨.int _, _, _, _⟩ => true | _ => false
  | _ => true

def softOrPick (tys : List (TypeId × Ty × List TypeId)) (op : Op) : Bool := match op with | .pick .. => true | op => softB tys op

inductive Plan where
  | done
  | go (i : Nat) (p : Plan)
  | gob (i : Nat) (p : Plan)
  | alt (i : Nat) (p q : Plan)

def both (x y : Option R) : Option R := match x with | some _ => y | none => none

def altC (f : Nat → Option Plan) : List Nat → Option Plan
  | [] => some .done
  | [i] => (f i).map (.go i)
  | i :: l => match f i, altC f l with | some p, some q => some (.alt i p q) | _, _ => none

def planC (Γ : Env R) (ops : Array Oper) : Nat → Array Bool → Option Plan
  | 0, listed => if (Region.ready .any ops listed).isEmpty then some .done else none
  | n + 1, listed =>
    let rs := Region.ready .any ops listed
    match rs.find? (fun i => match ops[i]? with
        | some o => softOrPick Γ.tys o.op && Region.free .any ops listed i && (List.range ops.size).all fun j => j == i || listed.getD j true ||
            (match ops[j]? with | some oj => oj.after.any (fun e => Region.binds .any e && e.on == i) || tameB Γ oj.op | none => true)
        | none => false) with
    | some i => (planC Γ ops n (listed.setIfInBounds i true)).map (.go i)
    | none =>
      match rs.find? (fun i => match ops[i]? with
          | some o => softOrPick Γ.tys o.op && Region.free .any ops listed i && (List.range ops.size).all fun j => j == i || listed.getD j true ||
              (match ops[j]? with | some oj => oj.after.any (fun e => Region.binds .any e && e.on == i) || halfB Γ oj.op | none => true)
          | none => false) with
      | some i => (planC Γ ops n (listed.setIfInBounds i true)).map (.gob i)
      | none => altC (fun i => planC Γ ops n (listed.setIfInBounds i true)) rs

def runP (Γ : Env R) (all : List Oper) : Plan → State → (State → Option R) → Option R
  | .done, σ, k => k σ
  | .go i p, σ, k =>
    match all[i]? with
    | some o => guardC Γ all o σ fun σ' => runP Γ all p σ' k
    | none => none
  | .gob i p, σ, k =>
    match all[i]? with
    | some o => bif bsoft σ o.op then guardC Γ all o σ fun σ' => runP Γ all p σ' k else none
    | none => none
  | .alt i p q, σ, k =>
    match all[i]? with
    | some o => both (guardC Γ all o σ fun σ' => runP Γ all p σ' k) (runP Γ all q σ k)
    | none => none

inductive Ex where
  | normal | exit (id : Nat) | ret

abbrev Kont (R : Type) := Ex → State → Option R
abbrev Node (R : Type) := State → Kont R → Option R

inductive HT where
  | o | x (i : Nat) | t (a b : HT)
def HT.l : HT → HT
  | .t a _ => a
  | _ => .o
def HT.r : HT → HT
  | .t _ b => b
  | _ => .o

def keepSlots : List Nat → Nat → List TV → List TV
  | _, _, [] => []
  | ks, i, tv :: l => (if ks.contains i then tv else .dead) :: keepSlots ks (i + 1) l
def keepBoxes : List Nat → Nat → List (Option TVal) → List (Option TVal)
  | _, _, [] => []
  | ks, i, b :: l => (if ks.contains i then b else none) :: keepBoxes ks (i + 1) l
def State.forget (σ : State) (ks bs : List Nat) : State := ⟨keepSlots ks 0 σ.slots, keepBoxes bs 0 σ.boxes⟩

def loopC (body : Node R) (fN : State → State) (fX : Ex → State → State) : Nat → Node R
  | 0, _, _ => none
  | n + 1, σ, k => body σ fun e σ' => match e with
    | .normal => loopC body fN fX n (fN σ') k
    | e => k e (fX e σ')

def codeC (Γ : Env R) (X : List (Node R)) : HT → Code → Node R
  | .x i, _ => fun σ k => getN (fun _ _ => none) X i σ k
  | _, .skip => fun σ k => k .normal σ
  | _, .region _ ops draw => fun σ k =>
    if draw then
      (match (if Region.noSelect ops then planC Γ ops ops.size (Array.replicate ops.size false) else none) with
       | some l => runP Γ ops.toList l σ fun σ' => k .normal σ'
       | none => none)
    else runC Γ ops.toList (List.range ops.size) σ fun σ' => k .normal σ'
  | h, .seq a b => fun σ k => codeC Γ X h.l a σ fun e σ' => match e with
    | .normal => codeC Γ X h.r b σ' k
    | e => k e σ'
  | h, .cond (.tmp t) a b => fun σ k =>
    match σ.slot t with
    | .val ⟨.bool, false, x, _⟩ => bif x then codeC Γ X h.l a (σ.know t true) k else codeC Γ X h.r b (σ.know t false) k
    | _ => none
  | h, .block id c => fun σ k => codeC Γ X h.l c σ fun e σ' => match e with
    | .exit j => if j == id then k .normal σ' else k (.exit j) σ'
    | e => k e σ'
  | _, .exit id => fun σ k => k (.exit id) σ
  | h, .scope c => fun σ k => codeC Γ X h.l c σ k
  | _, .ret => fun σ k => k .ret σ
  | _, _ => fun _ _ => none

def startSlots (n : Nat) : List Mode → List TVal → Nat → List TV
  | .borrow _ ag :: ms, v :: vs, j => .val { v with ag := ag, tg := List.replicate (leaves v.τ) .S } :: startSlots n ms vs j
  | .consume _ ag :: ms, v :: vs, j => .val { v with ag := ag } :: startSlots n ms vs j
  | .eat _ ag :: ms, v :: vs, j => .val { v with ag := ag } :: startSlots n ms vs j
  | .inout _ ag :: ms, v :: vs, j => .val { v with ag := ag } :: startSlots n ms vs j
  | .ptr _ :: ms, vs, j => .ptr ⟨true, n + j, []⟩ :: startSlots n ms vs (j + 1)
  | .look _ ag :: ms, v :: vs, j => .val { v with ag := ag, tg := List.replicate (leaves v.τ) .S } :: startSlots n ms vs j
  | .rptr _ :: ms, v :: vs, j => .eptr (still v.τ v.x) .S :: startSlots n ms vs j
  | .rclos f τs :: ms, v :: vs, j => .sclos f τs (still v.τ v.x) :: startSlots n ms vs j
  | .clos f τs :: ms, vs, j => .clos f ((List.range τs.length).map fun i => ⟨true, n + j + i, []⟩) :: startSlots n ms vs (j + τs.length)
  | _, _, _ => []
def padTo {α : Type} (d : α) : Nat → List α → List α
  | 0, _ => []
  | n + 1, [] => d :: padTo d n []
  | n + 1, a :: l => a :: padTo d n l
def start (ntmps : Nat) (modes : List Mode) (vals ext : List TVal) : State :=
  { slots := padTo .dead ntmps (startSlots ntmps modes vals 0), boxes := padTo none ntmps [] ++ ext.map some }

def resultC (tys : List (TypeId × Ty × List TypeId)) : List ResultVar → List Bool → State → List TVal → Option (List TVal × State)
  | [], _, σ, acc => some (acc.reverse, σ)
  | .tmp t :: rs, ag :: ags, σ, acc =>
    (match σ.look (.tmp t) with
     | some v => if v.ag == ag then (match σ.take (.tmp t) v.τ with
       | some (u, σ') => resultC tys rs ags σ' (u :: acc)
       | none => none) else none
     | none => none)
  | .cell a ty :: rs, ag :: ags, σ, acc =>
    (match tyOf tys ty, σ.slot a with
     | some τ, .ptr p => (match σ.getAt p with
       | some v => if v.τ = τ ∧ agOf tys ty = ag ∧ flatB p.path then (match σ.setAt p v.alias with
           | some σ' => resultC tys rs ags σ' ({ v with ag := ag } :: acc)
           | none => none) else none
       | none => none)
     | _, _ => none)
  | _, _, _, _ => none

def ioC (np : Nat) : List Mode → Nat → State → Option (List TVal × State)
  | [], _, σ => some ([], σ)
  | .inout τ ag :: ms, i, σ =>
    match σ.take (.tmp i) τ with
    | some (u, σ') => if decide (i < np) && u.allO && u.ag == ag then (ioC np ms (i + 1) σ').map fun r => (u :: r.1, r.2) else none
    | none => none
  | _ :: ms, i, σ => ioC np ms (i + 1) σ
def ioTys : List Mode → List Ty
  | .inout τ _ :: ms => τ :: ioTys ms
  | _ :: ms => ioTys ms
  | [] => []
def sameTys : List TVal → List TVal → Bool
  | [], [] => true
  | u :: us, v :: vs => decide (u.τ = v.τ) && sameTys us vs
  | _, _ => false

def funC (Γ : Env R) (X : List (Node R)) (ht : HT) (fz : Bool) (fn : Func) (modes : List Mode) (ags : List Bool) (vals ext : List TVal)
    (k : List TVal → List TVal → List TVal → Option R) : Option R :=
  match fn.body with
  | none => none
  | some c => codeC Γ X ht c (start fn.ntmps modes vals ext) fun e σ =>
    match e with
    | .exit _ => none
    | _ => match resultC Γ.tys fn.results.toList ags σ [] with
      | some (res, σ1) => (match ioC Γ.np modes 0 σ1 with
        | some (ios, σ') => (match σ'.boxesAt ((List.range ext.length).map (fn.ntmps + ·)) with
          | some ext' => if decide (σ'.slots.length = fn.ntmps) && sameTys ext ext' && ext'.all TVal.noN && ((!fz && res.all TVal.noN) || (ios.isEmpty && ext'.all fun v => v.tg.all fun t => !t.own)) then k (frozenAll fz res) ios ext' else none
          | none => none)
        | none => none)
      | none => none
end
end Go.PI
namespace Go.PI

def cellsAt (w : World) (b o n : Nat) : Option (List Value) :=
  match w.heap[b]? with
  | some (.cells c _ _) => if o + n ≤ c.size then some ((c.toList.drop o).take n) else none
  | _ => none

def Thaw (c : Array Value) (fr : Nat × Nat) : Prop := ∀ j, j < c.size → ¬ (fr.1 ≤ j ∧ j < fr.2)
def Row (w : World) (b n : Nat) : Prop := ∃ c T fr, w.heap[b]? = some (.cells c T fr) ∧ n ≤ c.size ∧ Thaw c fr

def tagB (St Al : Nat → Prop) : Tag → Nat → Prop
  | .S, b => St b
  | .PS, b => St b
  | _, b => Al b

def Rp (w : World) (F : Nat → Nat) (St Al : Nat → Prop) : (τ : Ty) → List Tag → List Value → El τ → List Nat → Prop
  | .int k, tg, cs, x, fp => cs = [.int k x] ∧ tg = [] ∧ fp = []
  | .bool, tg, cs, x, fp => cs = [.bool x] ∧ tg = [] ∧ fp = []
  | .str, tg, cs, x, fp => cs = [.string x] ∧ tg = [] ∧ fp = []
  | .unit, tg, cs, _, fp => cs = [] ∧ tg = [] ∧ fp = []
  | .pair a b, tg, cs, x, fp => ∃ t1 t2 c1 c2 f1 f2, tg = t1 ++ t2 ∧ cs = c1 ++ c2 ∧ fp = f1 ++ f2 ∧ Rp w F St Al a t1 c1 x.1 f1 ∧ Rp w F St Al b t2 c2 x.2 f2
  | .slice e, tg, cs, x, fp => ∃ t a cap, tg = [t] ∧ cs = [.slice a (List.length (α := El e) x) cap] ∧ List.length (α := El e) x ≤ cap ∧
      ((t.own = true ∧ a = none ∧ x = [] ∧ cap = 0 ∧ fp = []) ∨
       (t.own = true ∧ ∃ b o fps, a = some ⟨b, o, none⟩ ∧ Al b ∧ fp = b :: List.flatten fps ∧ fps.length = List.length (α := El e) x ∧ Row w b (o + cap * size e) ∧
          F b = o + List.length (α := El e) x * size e ∧
          ∀ k (h : k < List.length (α := El e) x), ∃ cs', cellsAt w b (o + k * size e) (size e) = some cs' ∧ Rp w F St Al e (List.replicate (leaves e) t.inner) cs' (List.get (α := El e) x ⟨k, h⟩) (fps.getD k [])) ∨
       (t.own = false ∧ fp = [] ∧ (x = [] ∨ ∃ b o, a = some ⟨b, o, none⟩ ∧ tagB St Al t b ∧ o + List.length (α := El e) x * size e ≤ F b ∧
          ∀ k (h : k < List.length (α := El e) x), ∃ cs', cellsAt w b (o + k * size e) (size e) = some cs' ∧ Rp w F St Al e (List.replicate (leaves e) t.inner) cs' (List.get (α := El e) x ⟨k, h⟩) [])))

theorem cellsAt_lt {w : World} {b o n : Nat} {cs : List Value} (h : cellsAt w b o n = some cs) : b < w.heap.size := by
  unfold cellsAt at h
  split at h
  · rename_i hb; exact (Array.getElem?_eq_some_iff.1 hb).1
  · cases h

theorem cellsAt_len {w : World} {b o n : Nat} {cs : List Value} (h : cellsAt w b o n = some cs) : cs.length = n := by
  unfold cellsAt at h
  split at h
  · split at h
    · cases h; simp; omega
    · cases h
  · cases h

theorem Row.lt {w : World} {b n : Nat} (h : Row w b n) : b < w.heap.size := by
  obtain ⟨c, T, fr, hb, _⟩ := h; exact (Array.getElem?_eq_some_iff.1 hb).1

theorem Row.cells {w : World} {b n o m : Nat} (h : Row w b n) (hn : o + m ≤ n) : ∃ cs, cellsAt w b o m = some cs := by
  obtain ⟨c, T, fr, hb, hs, _⟩ := h
  exact ⟨_, by unfold cellsAt; rw [hb]; simp only []; rw [if_pos (by omega)]⟩

theorem Row.mono {w : World} {b n m : Nat} (h : Row w b n) (hm : m ≤ n) : Row w b m := by
  obtain ⟨c, T, fr, hb, hs, ht⟩ := h; exact ⟨c, T, fr, hb, by omega, ht⟩

section
variable {w : World} {F : Nat → Nat} {St Al : Nat → Prop}

theorem Rp.len : {τ : Ty} → {tg : List Tag} → {cs : List Value} → {x : El τ} → {fp : List Nat} → Rp w F St Al τ tg cs x fp → cs.length = size τ ∧ tg.length = leaves τ
  | .int _, _, _, _, _, h => by obtain ⟨rfl, rfl, rfl⟩ := h; exact ⟨rfl, rfl⟩
  | .bool, _, _, _, _, h => by obtain ⟨rfl, rfl, rfl⟩ := h; exact ⟨rfl, rfl⟩
  | .str, _, _, _, _, h => by obtain ⟨rfl, rfl, rfl⟩ := h; exact ⟨rfl, rfl⟩
  | .unit, _, _, _, _, h => by obtain ⟨rfl, rfl, rfl⟩ := h; exact ⟨rfl, rfl⟩
  | .slice _, _, _, _, _, h => by obtain ⟨t, a, cap, rfl, rfl, _⟩ := h; exact ⟨rfl, rfl⟩
  | .pair a b, _, _, _, _, h => by
    obtain ⟨t1, t2, c1, c2, f1, f2, rfl, rfl, rfl, h1, h2⟩ := h
    have i1 := Rp.len h1
    have i2 := Rp.len h2
    simp [size, leaves, i1, i2]

theorem Rp.lt : {τ : Ty} → {tg : List Tag} → {cs : List Value} → {x : El τ} → {fp : List Nat} → Rp w F St Al τ tg cs x fp → ∀ b ∈ fp, b < w.heap.size
  | .int _, _, _, _, _, h => by obtain ⟨rfl, rfl, rfl⟩ := h; simp
  | .bool, _, _, _, _, h => by obtain ⟨rfl, rfl, rfl⟩ := h; simp
  | .str, _, _, _, _, h => by obtain ⟨rfl, rfl, rfl⟩ := h; simp
  | .unit, _, _, _, _, h => by obtain ⟨rfl, rfl, rfl⟩ := h; simp
  | .slice e, _, _, _, _, h => by
    obtain ⟨t, a, cap, rfl, rfl, _, h⟩ := h
    rcases h with ⟨_, _, _, _, rfl⟩ | ⟨_, b, o, fps, _, _, rfl, hl, hr, _, he⟩ | ⟨_, rfl, _⟩
    · simp
    · intro c hc
      rcases List.mem_cons.1 hc with rfl | hc
      · exact hr.lt
      · obtain ⟨f, hf, hcf⟩ := List.mem_flatten.1 hc
        obtain ⟨k, hk, rfl⟩ := List.mem_iff_getElem.1 hf
        obtain ⟨cs', _, hk'⟩ := he k (by omega)
        refine Rp.lt hk' c ?_
        rw [List.getD_eq_getElem?_getD, List.getElem?_eq_getElem hk]; exact hcf
    · simp
  | .pair a b, _, _, _, _, h => by
    obtain ⟨t1, t2, c1, c2, f1, f2, rfl, rfl, rfl, h1, h2⟩ := h
    intro c hc
    rcases List.mem_append.1 hc with hc | hc
    · exact Rp.lt h1 c hc
    · exact Rp.lt h2 c hc

def KeepB (w : World) (F : Nat → Nat) (w' : World) (F' : Nat → Nat) (b : Nat) : Prop :=
  F b ≤ F' b ∧ (∀ o n cs, o + n ≤ F b → cellsAt w b o n = some cs → cellsAt w' b o n = some cs) ∧ ∀ n, Row w b n → Row w' b n

theorem KeepB.refl (w : World) (F : Nat → Nat) (b : Nat) : KeepB w F w F b := ⟨Nat.le_refl _, fun _ _ _ _ h => h, fun _ h => h⟩
theorem KeepB.trans {w1 w2 w3 : World} {F1 F2 F3 : Nat → Nat} {b : Nat} (h : KeepB w1 F1 w2 F2 b) (k : KeepB w2 F2 w3 F3 b) : KeepB w1 F1 w3 F3 b :=
  ⟨Nat.le_trans h.1 k.1, fun o n cs hn hc => k.2.1 o n cs (Nat.le_trans hn h.1) (h.2.1 o n cs hn hc), fun n hr => k.2.2 n (h.2.2 n hr)⟩

theorem KeepB.of_block {w w' : World} {F F' : Nat → Nat} {b : Nat} (h : w'.heap[b]? = w.heap[b]?) (hF : F b ≤ F' b) : KeepB w F w' F' b :=
  ⟨hF, fun o n cs _ hc => by unfold cellsAt at *; rw [h]; exact hc, fun n hr => by unfold Row at *; rw [h]; exact hr⟩

theorem Tag.inner_own_false {t : Tag} (h : t.own = false) : t.inner.own = false := by cases t <;> simp_all [Tag.own, Tag.inner]

theorem Rp.pres {w' : World} {F' : Nat → Nat} {St' Al' : Nat → Prop} (hSt : ∀ b, St b → St' b) (hAl : ∀ b, b < w.heap.size → Al b → Al' b) (hS : ∀ b, St b → KeepB w F w' F' b) :
    {τ : Ty} → {tg : List Tag} → {cs : List Value} → {x : El τ} → {fp : List Nat} → Rp w F St Al τ tg cs x fp →
    (∀ b ∈ fp, KeepB w F w' F' b ∧ F' b = F b) → ((∀ t ∈ tg, t.isN = false) ∨ ∀ b, b < w.heap.size → Al b → KeepB w F w' F' b) → Rp w' F' St' Al' τ tg cs x fp
  | .int _, _, _, _, _, h, _, _ => h
  | .bool, _, _, _, _, h, _, _ => h
  | .str, _, _, _, _, h, _, _ => h
  | .unit, _, _, _, _, h, _, _ => h
  | .pair a b, _, _, _, _, h, hf, hN => by
    obtain ⟨t1, t2, c1, c2, f1, f2, rfl, rfl, rfl, h1, h2⟩ := h
    refine ⟨t1, t2, c1, c2, f1, f2, rfl, rfl, rfl, Rp.pres hSt hAl hS h1 (fun b hb => hf b (List.mem_append_left _ hb)) ?_, Rp.pres hSt hAl hS h2 (fun b hb => hf b (List.mem_append_right _ hb)) ?_⟩
    · exact hN.imp (fun h t ht => h t (List.mem_append_left _ ht)) id
    · exact hN.imp (fun h t ht => h t (List.mem_append_right _ ht)) id
  | .slice e, _, _, x, _, h, hf, hN => by
    obtain ⟨t, a, cap, rfl, rfl, hlc, h⟩ := h
    have hNe : ((∀ t' ∈ List.replicate (leaves e) t.inner, t'.isN = false) ∨ ∀ b, b < w.heap.size → Al b → KeepB w F w' F' b) :=
      hN.imp (fun h t' ht' => by
        obtain ⟨_, rfl⟩ := List.mem_replicate.1 ht'
        have := h t (by simp)
        cases t <;> simp_all [Tag.isN, Tag.inner]) id
    refine ⟨t, a, cap, rfl, rfl, hlc, ?_⟩
    rcases h with h | ⟨ho, b, o, fps, ha, hal, rfl, hl, hr, hF, he⟩ | ⟨ho, rfl, h⟩
    · exact .inl h
    · refine .inr (.inl ⟨ho, b, o, fps, ha, hAl b hr.lt hal, rfl, hl, ?_, ?_, fun k hk => ?_⟩)
      · exact ((hf b (by simp)).1).2.2 _ hr
      · rw [(hf b (by simp)).2]; exact hF
      · obtain ⟨cs', hc, hk'⟩ := he k hk
        refine ⟨cs', ((hf b (by simp)).1).2.1 _ _ _ ?_ hc, Rp.pres hSt hAl hS hk' (fun c hcm => hf c ?_) hNe⟩
        · rw [hF]
          have : (k + 1) * size e ≤ List.length (α := El e) x * size e := Nat.mul_le_mul_right _ hk
          rw [Nat.add_mul, Nat.one_mul] at this
          omega
        · refine List.mem_cons_of_mem _ (List.mem_flatten.2 ⟨_, ?_, hcm⟩)
          rw [List.getD_eq_getElem?_getD, List.getElem?_eq_getElem (by omega)]
          exact List.getElem_mem _
    · refine .inr (.inr ⟨ho, rfl, ?_⟩)
      rcases h with h | ⟨b, o, ha, htb, hF, he⟩
      · exact .inl h
      · by_cases hx : (List.length (α := El e) x) = 0
        · exact .inl (List.length_eq_zero_iff.1 hx)
        have hbl : b < w.heap.size := by
          obtain ⟨cs', hc, _⟩ := he 0 (by omega)
          exact cellsAt_lt hc
        have hkb : KeepB w F w' F' b := by
          rcases hN with hN | hN
          · have := hN t (by simp)
            cases t <;> simp_all [Tag.isN, Tag.own, tagB]
          · cases t with
            | S => exact hS b htb
            | N => exact hN b hbl htb
            | _ => cases ho
        refine .inr ⟨b, o, ha, ?_, Nat.le_trans hF hkb.1, fun k hk => ?_⟩
        · cases t <;> simp_all [tagB]
        · obtain ⟨cs', hc, hk'⟩ := he k hk
          refine ⟨cs', hkb.2.1 _ _ _ ?_ hc, Rp.pres hSt hAl hS hk' (by simp) hNe⟩
          have : (k + 1) * size e ≤ List.length (α := El e) x * size e := Nat.mul_le_mul_right _ hk
          rw [Nat.add_mul, Nat.one_mul] at this
          omega

def Tag.weak (St' : Nat → Prop) (fp : List Nat) (t t' : Tag) : Prop := t' = .N ∨ (t' = .S ∧ (t = .S ∨ ((t = .O ∨ t = .PS) ∧ ∀ b ∈ fp, St' b)))

theorem Rp.weaken {St' : Nat → Prop} (hSt : ∀ b, St b → St' b) (hSA : ∀ b, St b → Al b) :
    {τ : Ty} → {tg tg' : List Tag} → {cs : List Value} → {x : El τ} → {fp : List Nat} → Rp w F St Al τ tg cs x fp →
    tg'.length = tg.length → (∀ i (h : i < tg.length) (h' : i < tg'.length), Tag.weak St' fp tg[i] tg'[i]) → Rp w F St' Al τ tg' cs x []
  | .int _, _, _, _, _, _, h, hl, _ => by obtain ⟨rfl, rfl, rfl⟩ := h; exact ⟨rfl, by simpa using hl, rfl⟩
  | .bool, _, _, _, _, _, h, hl, _ => by obtain ⟨rfl, rfl, rfl⟩ := h; exact ⟨rfl, by simpa using hl, rfl⟩
  | .str, _, _, _, _, _, h, hl, _ => by obtain ⟨rfl, rfl, rfl⟩ := h; exact ⟨rfl, by simpa using hl, rfl⟩
  | .unit, _, _, _, _, _, h, hl, _ => by obtain ⟨rfl, rfl, rfl⟩ := h; exact ⟨rfl, by simpa using hl, rfl⟩
  | .pair a b, _, tg', _, _, _, h, hl, hw => by
    obtain ⟨t1, t2, c1, c2, f1, f2, rfl, rfl, rfl, h1, h2⟩ := h
    have hl' : tg'.length = t1.length + t2.length := by simpa using hl
    refine ⟨tg'.take t1.length, tg'.drop t1.length, c1, c2, [], [], (List.take_append_drop _ _).symm, rfl, rfl, Rp.weaken hSt hSA h1 (by simp; omega) ?_, Rp.weaken hSt hSA h2 (by simp; omega) ?_⟩
    · intro i h h'
      have := hw i (by simp; omega) (by simp at h'; omega)
      rw [List.getElem_append_left h] at this
      simp only [List.getElem_take]
      exact this.imp id (fun ⟨h1, h2⟩ => ⟨h1, h2.imp id (fun ⟨h3, h4⟩ => ⟨h3, fun b hb => h4 b (List.mem_append_left _ hb)⟩)⟩)
    · intro i h h'
      have := hw (t1.length + i) (by simp; omega) (by simp at h'; omega)
      rw [List.getElem_append_right (by omega)] at this
      simp only [Nat.add_sub_cancel_left] at this
      simp only [List.getElem_drop]
      exact this.imp id (fun ⟨h1, h2⟩ => ⟨h1, h2.imp id (fun ⟨h3, h4⟩ => ⟨h3, fun b hb => h4 b (List.mem_append_right _ hb)⟩)⟩)
  | .slice e, _, tg', _, _, _, h, hl, hw => by
    obtain ⟨t, a, cap, rfl, rfl, hlc, h⟩ := h
    obtain ⟨t', rfl⟩ : ∃ t', tg' = [t'] := by
      match tg', hl with
      | [t'], _ => exact ⟨t', rfl⟩
    have hw0 := hw 0 (by simp) (by simp)
    simp only [List.getElem_cons_zero] at hw0
    have ho' : t'.own = false := by rcases hw0 with rfl | ⟨rfl, _⟩ <;> rfl
    refine ⟨t', a, cap, rfl, rfl, hlc, .inr (.inr ⟨ho', rfl, ?_⟩)⟩
    have inner : ∀ (f : List Nat), (∀ b ∈ f, ∀ _ : t' = .S, t.inner.own = true → St' b) → ∀ i (h : i < (List.replicate (leaves e) t.inner).length) (h' : i < (List.replicate (leaves e) t'.inner).length),
        Tag.weak St' f (List.replicate (leaves e) t.inner)[i] (List.replicate (leaves e) t'.inner)[i] := by
      intro f hf i h h'
      simp only [List.getElem_replicate]
      rcases hw0 with rfl | ⟨rfl, h⟩
      · exact .inl rfl
      · refine .inr ⟨rfl, ?_⟩
        rcases h with rfl | ⟨rfl | rfl, h⟩
        · exact .inl rfl
        · exact .inr ⟨.inl rfl, fun b hb => hf b hb rfl rfl⟩
        · exact .inl rfl
    rcases h with ⟨_, rfl, rfl, rfl, rfl⟩ | ⟨ho, b, o, fps, rfl, hal, rfl, hl2, hr, hF, he⟩ | ⟨ho, rfl, h⟩
    · exact .inl rfl
    · refine .inr ⟨b, o, rfl, ?_, by omega, fun k hk => ?_⟩
      · rcases hw0 with rfl | ⟨rfl, h⟩
        · exact hal
        · rcases h with rfl | ⟨_, h⟩
          · cases ho
          · exact h b (by simp)
      · obtain ⟨cs', hc, hk'⟩ := he k hk
        refine ⟨cs', hc, Rp.weaken hSt hSA hk' (by simp) (inner _ fun c hcm hs _ => ?_)⟩
        rcases hw0 with rfl | ⟨rfl, h⟩
        · cases hs
        · rcases h with rfl | ⟨_, h⟩
          · cases ho
          · refine h c (List.mem_cons_of_mem _ (List.mem_flatten.2 ⟨_, ?_, hcm⟩))
            rw [List.getD_eq_getElem?_getD, List.getElem?_eq_getElem (by omega)]
            exact List.getElem_mem _
    · rcases h with h | ⟨b, o, ha, htb, hF, he⟩
      · exact .inl h
      · refine .inr ⟨b, o, ha, ?_, hF, fun k hk => ?_⟩
        · rcases hw0 with rfl | ⟨rfl, h⟩
          · cases t <;> simp_all [tagB, Tag.own]
          · rcases h with rfl | ⟨rfl | rfl, h⟩
            · exact hSt b htb
            · cases ho
            · cases ho
        · obtain ⟨cs', hc, hk'⟩ := he k hk
          exact ⟨cs', hc, Rp.weaken hSt hSA hk' (by simp) (inner _ (by simp))⟩

theorem Rp.alias (hSA : ∀ b, St b → Al b) {τ : Ty} {tg : List Tag} {cs : List Value} {x : El τ} {fp : List Nat} (h : Rp w F St Al τ tg cs x fp) : Rp w F St Al τ (tg.map Tag.alias) cs x [] :=
  h.weaken (fun _ h => h) hSA (by simp) fun i h h' => by
    simp only [List.getElem_map]
    cases tg[i] <;> simp [Tag.weak, Tag.alias]

theorem Rp.freeze {St' : Nat → Prop} (hSt : ∀ b, St b → St' b) (hSA : ∀ b, St b → Al b) {τ : Ty} {tg : List Tag} {cs : List Value} {x : El τ} {fp : List Nat} (h : Rp w F St Al τ tg cs x fp) (hfp : ∀ b ∈ fp, St' b) :
    Rp w F St' Al τ (tg.map Tag.freeze) cs x [] :=
  h.weaken hSt hSA (by simp) fun i h h' => by
    simp only [List.getElem_map]
    generalize tg[i] = t
    cases t <;> simp [Tag.weak, Tag.freeze]
    · exact hfp
    · exact hfp

theorem Rp.fp_nil : {τ : Ty} → {tg : List Tag} → {cs : List Value} → {x : El τ} → {fp : List Nat} → Rp w F St Al τ tg cs x fp → (∀ t ∈ tg, t.own = false) → fp = []
  | .int _, _, _, _, _, h, _ => by obtain ⟨rfl, rfl, rfl⟩ := h; rfl
  | .bool, _, _, _, _, h, _ => by obtain ⟨rfl, rfl, rfl⟩ := h; rfl
  | .str, _, _, _, _, h, _ => by obtain ⟨rfl, rfl, rfl⟩ := h; rfl
  | .unit, _, _, _, _, h, _ => by obtain ⟨rfl, rfl, rfl⟩ := h; rfl
  | .slice e, _, _, _, _, h, ho => by
    obtain ⟨t, a, cap, rfl, rfl, _, h⟩ := h
    have := ho t (by simp)
    rcases h with ⟨h1, _⟩ | ⟨h1, _⟩ | ⟨_, rfl, _⟩
    · simp_all
    · simp_all
    · rfl
  | .pair a b, _, _, _, _, h, ho => by
    obtain ⟨t1, t2, c1, c2, f1, f2, rfl, rfl, rfl, h1, h2⟩ := h
    rw [Rp.fp_nil h1 fun t ht => ho t (List.mem_append_left _ ht), Rp.fp_nil h2 fun t ht => ho t (List.mem_append_right _ ht)]; rfl
end
end Go.PI
namespace Go.PI

def locP (w : World) : (τ : Ty) → List Value → Option (Nat × Nat) → List Step → Option (List Value × Option (Nat × Nat))
  | _, cs, base, [] => some (cs, base)
  | .pair a b, cs, base, .fst :: p => locP w a (cs.take (size a)) base p
  | .pair a b, cs, base, .snd :: p => locP w b (cs.drop (size a)) (base.map fun x => (x.1, x.2 + size a)) p
  | .slice e, cs, _, .idx i :: p =>
    match cs with
    | [.slice (some ⟨b, o, none⟩) len _] =>
      if i < len then
        match cellsAt w b (o + i * size e) (size e) with
        | some cs' => locP w e cs' (some (b, o + i * size e)) p
        | none => none
      else none
    | _ => none
  | _, _, _, _ => none

section
variable {w : World} {F : Nat → Nat} {St Al : Nat → Prop}

theorem getD_lt {α : Type} (l : List α) (i : Nat) (d : α) (h : i < l.length) : l.getD i d = l.get ⟨i, h⟩ := by
  rw [List.getD_eq_getElem?_getD, List.getElem?_eq_getElem h]; rfl

theorem Rp.pair_parts {a b : Ty} {tg : List Tag} {cs : List Value} {x : El (.pair a b)} {fp : List Nat} (h : Rp w F St Al (.pair a b) tg cs x fp) :
    ∃ f1 f2, fp = f1 ++ f2 ∧ Rp w F St Al a (tg.take (leaves a)) (cs.take (size a)) x.1 f1 ∧ Rp w F St Al b (tg.drop (leaves a)) (cs.drop (size a)) x.2 f2 := by
  obtain ⟨t1, t2, c1, c2, f1, f2, rfl, rfl, rfl, h1, h2⟩ := h
  have i1 := h1.len
  refine ⟨f1, f2, rfl, ?_, ?_⟩
  · rw [← i1.1, ← i1.2]; simpa using h1
  · rw [← i1.1, ← i1.2]; simpa using h2

theorem Rp.pair_mk {a b : Ty} {t1 t2 : List Tag} {c1 c2 : List Value} {x : El a} {y : El b} {f1 f2 : List Nat} (h1 : Rp w F St Al a t1 c1 x f1) (h2 : Rp w F St Al b t2 c2 y f2) :
    Rp w F St Al (.pair a b) (t1 ++ t2) (c1 ++ c2) (x, y) (f1 ++ f2) := ⟨t1, t2, c1, c2, f1, f2, rfl, rfl, rfl, h1, h2⟩

theorem Rp.get : {path : List Step} → {τ : Ty} → {tg : List Tag} → {cs cs' : List Value} → {x : El τ} → {fp : List Nat} → {base base' : Option (Nat × Nat)} → {u : TVal} →
    Rp w F St Al τ tg cs x fp → locP w τ cs base path = some (cs', base') → getP τ x tg path = some u →
    ∃ fp', Rp w F St Al u.τ u.tg cs' u.x fp' ∧ ∀ b ∈ fp', b ∈ fp
  | [], τ, tg, cs, cs', x, fp, base, base', u, h, hl, hg => by
    simp only [locP, Option.some.injEq, Prod.mk.injEq] at hl
    obtain ⟨rfl, rfl⟩ := hl
    cases τ <;> (simp only [getP, Option.some.injEq] at hg; subst hg; exact ⟨fp, h, fun _ h => h⟩)
  | .fst :: p, .pair a b, tg, cs, cs', x, fp, base, base', u, h, hl, hg => by
    obtain ⟨f1, f2, rfl, h1, h2⟩ := h.pair_parts
    obtain ⟨fp', h3, h4⟩ := Rp.get (path := p) h1 hl hg
    exact ⟨fp', h3, fun b hb => List.mem_append_left _ (h4 b hb)⟩
  | .snd :: p, .pair a b, tg, cs, cs', x, fp, base, base', u, h, hl, hg => by
    obtain ⟨f1, f2, rfl, h1, h2⟩ := h.pair_parts
    obtain ⟨fp', h3, h4⟩ := Rp.get (path := p) h2 hl hg
    exact ⟨fp', h3, fun b hb => List.mem_append_right _ (h4 b hb)⟩
  | .idx i :: p, .slice e, tg, cs, cs', x, fp, base, base', u, h, hl, hg => by
    obtain ⟨t, a, cap, rfl, rfl, hlc, h⟩ := h
    simp only [locP] at hl
    split at hl
    · rename_i b o len cap' heq
      simp only [List.cons.injEq, Value.slice.injEq, and_true] at heq
      obtain ⟨rfl, rfl, rfl⟩ := heq
      split at hl
      · rename_i hi
        split at hl
        · rename_i cse hce
          simp only [getP, List.headD_cons] at hg
          rw [getD_lt _ _ _ hi] at hg
          rcases h with ⟨_, hn, _⟩ | ⟨ho, b', o', fps, hbb, hal, rfl, hlf, hr, hF, he⟩ | ⟨ho, rfl, h⟩
          · cases hn
          · simp only [Option.some.injEq, Addr.mk.injEq, and_true] at hbb
            obtain ⟨rfl, rfl⟩ := hbb
            obtain ⟨c2, hc2, hk⟩ := he i hi
            rw [hce] at hc2
            cases hc2
            obtain ⟨fp', h3, h4⟩ := Rp.get (path := p) hk hl hg
            refine ⟨fp', h3, fun c hc => List.mem_cons_of_mem _ (List.mem_flatten.2 ⟨_, ?_, h4 c hc⟩)⟩
            rw [List.getD_eq_getElem?_getD, List.getElem?_eq_getElem (by omega)]
            exact List.getElem_mem _
          · rcases h with h | ⟨b', o', hbb, htb, hF, he⟩
            · subst h; simp at hi
            · simp only [Option.some.injEq, Addr.mk.injEq, and_true] at hbb
              obtain ⟨rfl, rfl⟩ := hbb
              obtain ⟨c2, hc2, hk⟩ := he i hi
              rw [hce] at hc2
              cases hc2
              obtain ⟨fp', h3, h4⟩ := Rp.get (path := p) hk hl hg
              exact ⟨fp', h3, fun c hc => by simpa using h4 c hc⟩
        · cases hl
      · cases hl
    · cases hl
  | .fst :: _, .int _, _, _, _, _, _, _, _, _, _, hl, _ => by simp [locP] at hl
  | .fst :: _, .bool, _, _, _, _, _, _, _, _, _, hl, _ => by simp [locP] at hl
  | .fst :: _, .str, _, _, _, _, _, _, _, _, _, hl, _ => by simp [locP] at hl
  | .fst :: _, .unit, _, _, _, _, _, _, _, _, _, hl, _ => by simp [locP] at hl
  | .fst :: _, .slice _, _, _, _, _, _, _, _, _, _, hl, _ => by simp [locP] at hl
  | .snd :: _, .int _, _, _, _, _, _, _, _, _, _, hl, _ => by simp [locP] at hl
  | .snd :: _, .bool, _, _, _, _, _, _, _, _, _, hl, _ => by simp [locP] at hl
  | .snd :: _, .str, _, _, _, _, _, _, _, _, _, hl, _ => by simp [locP] at hl
  | .snd :: _, .unit, _, _, _, _, _, _, _, _, _, hl, _ => by simp [locP] at hl
  | .snd :: _, .slice _, _, _, _, _, _, _, _, _, _, hl, _ => by simp [locP] at hl
  | .idx _ :: _, .int _, _, _, _, _, _, _, _, _, _, hl, _ => by simp [locP] at hl
  | .idx _ :: _, .bool, _, _, _, _, _, _, _, _, _, hl, _ => by simp [locP] at hl
  | .idx _ :: _, .str, _, _, _, _, _, _, _, _, _, hl, _ => by simp [locP] at hl
  | .idx _ :: _, .unit, _, _, _, _, _, _, _, _, _, hl, _ => by simp [locP] at hl
  | .idx _ :: _, .pair _ _, _, _, _, _, _, _, _, _, _, hl, _ => by simp [locP] at hl

def offP : Ty → List Step → Nat
  | .pair a b, .fst :: p => offP a p
  | .pair a b, .snd :: p => size a + offP b p
  | _, _ => 0

def splice (cs : List Value) (o : Nat) (l : List Value) : List Value := cs.take o ++ l ++ cs.drop (o + l.length)

def patchW (w : World) (b o : Nat) (l : List Value) : World :=
  { w with heap := w.heap.modify b fun ob => match ob with | .cells c T fr => .cells (splice c.toList o l).toArray T fr | x => x }

theorem splice_length {cs l : List Value} {o : Nat} (h : o + l.length ≤ cs.length) : (splice cs o l).length = cs.length := by
  unfold splice; simp; omega

theorem splice_nil_all {cs l : List Value} (h : l.length = cs.length) : splice cs 0 l = l := by
  unfold splice; simp [h]

theorem drop_take_splice_out {cs l : List Value} {o o' n : Nat} (h : o + n ≤ o' ∨ o' + l.length ≤ o) (hb : o' + l.length ≤ cs.length) :
    ((splice cs o' l).drop o).take n = (cs.drop o).take n := by
  apply List.ext_getElem?
  intro i
  unfold splice
  simp only [List.getElem?_take, List.getElem?_drop]
  by_cases hi : i < n
  · simp only [hi, if_true]
    rcases h with h | h
    · rw [List.append_assoc, List.getElem?_append_left (by simp; omega), List.getElem?_take_of_lt (by omega)]
    · rw [List.getElem?_append_right (by simp; omega)]
      simp only [List.length_append, List.length_take, List.getElem?_drop]
      congr 1
      omega
  · simp [hi]

theorem drop_take_splice_in {cs l : List Value} {o o' n : Nat} (h : o ≤ o') (h2 : o' + l.length ≤ o + n) (hb : o + n ≤ cs.length) :
    ((splice cs o' l).drop o).take n = splice ((cs.drop o).take n) (o' - o) l := by
  apply List.ext_getElem?
  intro i
  unfold splice
  simp only [List.getElem?_take, List.getElem?_drop]
  by_cases hi : i < n
  · simp only [hi, if_true]
    by_cases h3 : o + i < o'
    · rw [List.append_assoc, List.getElem?_append_left (by simp; omega), List.getElem?_take_of_lt (by omega)]
      rw [List.append_assoc, List.getElem?_append_left (by simp; omega), List.getElem?_take_of_lt (by omega), List.getElem?_take_of_lt (by omega), List.getElem?_drop]
    · by_cases h4 : o + i < o' + l.length
      · rw [List.append_assoc, List.getElem?_append_right (by simp; omega), List.getElem?_append_left (by simp; omega)]
        rw [List.append_assoc, List.getElem?_append_right (by simp; omega), List.getElem?_append_left (by simp; omega)]
        congr 1
        simp; omega
      · rw [List.getElem?_append_right (by simp; omega), List.getElem?_append_right (by simp; omega)]
        simp only [List.length_append, List.length_take, List.getElem?_drop, List.length_drop, List.getElem?_take]
        rw [if_pos (by omega)]
        congr 1
        omega
  · simp only [hi, if_false]
    rw [List.getElem?_eq_none]
    simp; omega

theorem patchW_other {w : World} {b o : Nat} {l : List Value} {c : Nat} (h : c ≠ b) : (patchW w b o l).heap[c]? = w.heap[c]? := by
  simp only [patchW, Array.getElem?_modify]
  rw [if_neg (by omega)]

theorem cellsAt_congr {w w' : World} {b : Nat} (h : w'.heap[b]? = w.heap[b]?) (o n : Nat) : cellsAt w' b o n = cellsAt w b o n := by
  unfold cellsAt; rw [h]

theorem Row_congr {w w' : World} {b n : Nat} (h : w'.heap[b]? = w.heap[b]?) : Row w' b n ↔ Row w b n := by
  unfold Row; rw [h]

theorem cellsAt_patch_out {w : World} {b o' o n : Nat} {l cs : List Value} (hl : ∃ m, o' + l.length ≤ m ∧ Row w b m) (h : o + n ≤ o' ∨ o' + l.length ≤ o) (hc : cellsAt w b o n = some cs) :
    cellsAt (patchW w b o' l) b o n = some cs := by
  obtain ⟨m, hm, c, T, fr, hb, hs, _⟩ := hl
  have hlc : o' + l.length ≤ c.toList.length := by have : c.toList.length = c.size := Array.length_toList; omega
  have hsz : (splice c.toList o' l).toArray.size = c.size := by rw [List.size_toArray, splice_length hlc, Array.length_toList]
  have hp : (patchW w b o' l).heap[b]? = some (.cells (splice c.toList o' l).toArray T fr) := by
    simp only [patchW, Array.getElem?_modify, hb, if_true, Option.map_some]
  unfold cellsAt at *
  rw [hb] at hc
  rw [hp]
  simp only [] at hc ⊢
  by_cases h1 : o + n ≤ c.size
  · rw [if_pos h1] at hc
    rw [if_pos (by rw [hsz]; exact h1), List.toList_toArray, drop_take_splice_out h hlc]
    exact hc
  · rw [if_neg h1] at hc; cases hc

theorem cellsAt_patch_in {w : World} {b o' o n : Nat} {l cs : List Value} (h : o ≤ o') (h2 : o' + l.length ≤ o + n) (hc : cellsAt w b o n = some cs) :
    cellsAt (patchW w b o' l) b o n = some (splice cs (o' - o) l) := by
  unfold cellsAt at hc
  split at hc
  · rename_i c T fr hb
    split at hc
    · rename_i h1
      cases hc
      have hlc : o' + l.length ≤ c.toList.length := by have : c.toList.length = c.size := Array.length_toList; omega
      have hsz : (splice c.toList o' l).toArray.size = c.size := by rw [List.size_toArray, splice_length hlc, Array.length_toList]
      have hp : (patchW w b o' l).heap[b]? = some (.cells (splice c.toList o' l).toArray T fr) := by
        simp only [patchW, Array.getElem?_modify, hb, if_true, Option.map_some]
      unfold cellsAt
      rw [hp]
      simp only []
      rw [if_pos (by rw [hsz]; exact h1), List.toList_toArray, drop_take_splice_in h h2 (by have : c.toList.length = c.size := Array.length_toList; omega)]
    · cases hc
  · cases hc

theorem Row_patch {w : World} {b o' n m : Nat} {l : List Value} (hl : o' + l.length ≤ m) (hr : Row w b m) (h : Row w b n) : Row (patchW w b o' l) b n := by
  obtain ⟨c, T, fr, hb, hs, ht⟩ := h
  obtain ⟨c2, T2, fr2, hb2, hs2, _⟩ := hr
  rw [hb] at hb2
  cases hb2
  have hsz : (splice c.toList o' l).toArray.size = c.size := by
    rw [List.size_toArray, splice_length (by have : c.toList.length = c.size := Array.length_toList; omega), Array.length_toList]
  refine ⟨(splice c.toList o' l).toArray, T, fr, ?_, by omega, fun j hj => ht j (by omega)⟩
  simp only [patchW, Array.getElem?_modify, hb, if_true, Option.map_some]


def patchO (w : World) (base : Option (Nat × Nat)) (l : List Value) : World := match base with | some (b, o) => patchW w b o l | none => w

theorem perm_set_flatten (l : List (List Nat)) (i : Nat) (h : i < l.length) : (l.flatten).Perm ((l.set i []).flatten ++ l[i]) := by
  induction l generalizing i with
  | nil => simp at h
  | cons a l ih =>
    cases i with
    | zero => simp only [List.set_cons_zero, List.flatten_cons, List.getElem_cons_zero, List.nil_append]; exact List.perm_append_comm
    | succ i =>
      simp only [List.set_cons_succ, List.flatten_cons, List.getElem_cons_succ, List.append_assoc]
      exact List.Perm.append_left _ (ih i (by simpa using h))

theorem perm_set_flatten' (l : List (List Nat)) (i : Nat) (m : List Nat) (h : i < l.length) : ((l.set i m).flatten).Perm ((l.set i []).flatten ++ m) := by
  have := perm_set_flatten (l.set i m) i (by simpa using h)
  simpa using this
end
end Go.PI
namespace Go.PI
section
variable {w : World} {F : Nat → Nat} {St Al : Nat → Prop}

theorem Rp.presO {w' : World} {F' : Nat → Nat} {St' Al' : Nat → Prop} :
    {τ : Ty} → {tg : List Tag} → {cs : List Value} → {x : El τ} → {fp : List Nat} → Rp w F St Al τ tg cs x fp → (∀ t ∈ tg, t = .O) →
    (∀ b ∈ fp, KeepB w F w' F' b ∧ F' b = F b ∧ (Al b → Al' b)) → Rp w' F' St' Al' τ tg cs x fp
  | .int _, _, _, _, _, h, _, _ => h
  | .bool, _, _, _, _, h, _, _ => h
  | .str, _, _, _, _, h, _, _ => h
  | .unit, _, _, _, _, h, _, _ => h
  | .pair a b, _, _, _, _, h, hO, hf => by
    obtain ⟨t1, t2, c1, c2, f1, f2, rfl, rfl, rfl, h1, h2⟩ := h
    exact ⟨t1, t2, c1, c2, f1, f2, rfl, rfl, rfl, Rp.presO h1 (fun t ht => hO t (List.mem_append_left _ ht)) (fun b hb => hf b (List.mem_append_left _ hb)),
      Rp.presO h2 (fun t ht => hO t (List.mem_append_right _ ht)) (fun b hb => hf b (List.mem_append_right _ hb))⟩
  | .slice e, _, _, x, _, h, hO, hf => by
    obtain ⟨t, a, cap, rfl, rfl, hlc, h⟩ := h
    obtain rfl := hO t (by simp)
    refine ⟨.O, a, cap, rfl, rfl, hlc, ?_⟩
    rcases h with h | ⟨ho, b, o, fps, ha, hal, rfl, hl, hr, hF, he⟩ | ⟨ho, _⟩
    · exact .inl h
    · have hb := hf b (by simp)
      refine .inr (.inl ⟨ho, b, o, fps, ha, hb.2.2 hal, rfl, hl, hb.1.2.2 _ hr, by rw [hb.2.1]; exact hF, fun k hk => ?_⟩)
      obtain ⟨cs', hc, hk'⟩ := he k hk
      refine ⟨cs', hb.1.2.1 _ _ _ ?_ hc, Rp.presO hk' (by simp [Tag.inner]) (fun c hcm => hf c ?_)⟩
      · rw [hF]
        have : (k + 1) * size e ≤ List.length (α := El e) x * size e := Nat.mul_le_mul_right _ hk
        rw [Nat.add_mul, Nat.one_mul] at this
        omega
      · refine List.mem_cons_of_mem _ (List.mem_flatten.2 ⟨_, ?_, hcm⟩)
        rw [List.getD_eq_getElem?_getD, List.getElem?_eq_getElem (by omega)]
        exact List.getElem_mem _
    · cases ho

theorem getP_size : {path : List Step} → {τ : Ty} → {x : El τ} → {tg : List Tag} → {u : TVal} → flatB path = true → getP τ x tg path = some u → offP τ path + size u.τ ≤ size τ
  | [], τ, x, tg, u, _, h => by cases τ <;> (simp only [getP, Option.some.injEq] at h; subst h; simp [offP])
  | .fst :: p, .pair a b, x, tg, u, hf, h => by
    have := getP_size (path := p) hf h
    simp only [offP, size]; omega
  | .snd :: p, .pair a b, x, tg, u, hf, h => by
    have := getP_size (path := p) hf h
    simp only [offP, size]; omega
  | .idx _ :: _, _, _, _, _, hf, _ => by simp [flatB] at hf
  | .fst :: _, .int _, _, _, _, _, h => by simp [getP] at h
  | .fst :: _, .bool, _, _, _, _, h => by simp [getP] at h
  | .fst :: _, .str, _, _, _, _, h => by simp [getP] at h
  | .fst :: _, .unit, _, _, _, _, h => by simp [getP] at h
  | .fst :: _, .slice _, _, _, _, _, h => by simp [getP] at h
  | .snd :: _, .int _, _, _, _, _, h => by simp [getP] at h
  | .snd :: _, .bool, _, _, _, _, h => by simp [getP] at h
  | .snd :: _, .str, _, _, _, _, h => by simp [getP] at h
  | .snd :: _, .unit, _, _, _, _, h => by simp [getP] at h
  | .snd :: _, .slice _, _, _, _, _, h => by simp [getP] at h

theorem splice_append_left {a b l : List Value} {o : Nat} (h : o + l.length ≤ a.length) : splice (a ++ b) o l = splice a o l ++ b := by
  unfold splice
  rw [List.take_append_of_le_length (by omega), List.drop_append_of_le_length (by omega)]
  simp

theorem splice_append_right {a b l : List Value} {o : Nat} : splice (a ++ b) (a.length + o) l = a ++ splice b o l := by
  unfold splice
  rw [List.take_length_add_append, show a.length + o + l.length = a.length + (o + l.length) by omega, List.drop_length_add_append]
  simp

def Put (w : World) (F : Nat → Nat) (Al : Nat → Prop) (w' : World) (F' : Nat → Nat) (Al' : Nat → Prop) (base : Option (Nat × Nat)) (l : List Value) (b : Nat) : Prop :=
  F' b = F b ∧ (Al b → Al' b) ∧ w'.heap[b]? = (patchO w base l).heap[b]?

theorem Put.keep {w' : World} {F' : Nat → Nat} {Al' : Nat → Prop} {base : Option (Nat × Nat)} {l : List Value} {b : Nat} (h : Put w F Al w' F' Al' base l b) (hb : ∀ y, base = some y → y.1 ≠ b) :
    KeepB w F w' F' b ∧ F' b = F b ∧ (Al b → Al' b) := by
  refine ⟨KeepB.of_block ?_ (by rw [h.1]; exact Nat.le_refl _), h.1, h.2.1⟩
  rw [h.2.2]
  cases base with
  | none => rfl
  | some y => exact patchW_other (by have := hb y rfl; omega)

structure Lens (w : World) (F : Nat → Nat) (St Al : Nat → Prop) (τ : Ty) (tg : List Tag) (cs : List Value) (x : El τ) (fp : List Nat) (base : Option (Nat × Nat)) (path : List Step)
    (cs' : List Value) (base' : Option (Nat × Nat)) (u : TVal) (fpo fpi : List Nat) : Prop where
  perm : fp.Perm (fpo ++ fpi)
  part : Rp w F St Al u.τ u.tg cs' u.x fpi
  tags : ∀ t ∈ u.tg, t = .O
  deep : flatB path = false → ∃ b' o' m, base' = some (b', o') ∧ b' ∈ fpo ∧ o' + size u.τ ≤ m ∧ Row w b' m
  flat : flatB path = true → base' = base.map fun y => (y.1, y.2 + offP τ path)
  put : ∀ (w' : World) (F' : Nat → Nat) (St' Al' : Nat → Prop) (v : TVal) (csv : List Value) (fpv : List Nat) (x' : El τ) (tg' : List Tag),
    setP τ x tg path v = some (x', tg') → v.τ = u.τ → (∀ t ∈ v.tg, t = .O) → Rp w' F' St' Al' v.τ v.tg csv v.x fpv →
    (∀ b ∈ fpo, Put w F Al w' F' Al' base' csv b) →
    ∃ fpn, fpn.Perm (fpo ++ fpv) ∧ (∀ t ∈ tg', t = .O) ∧ Rp w' F' St' Al' τ tg' (if flatB path then splice cs (offP τ path) csv else cs) x' fpn

theorem Rp.lens : {path : List Step} → {τ : Ty} → {tg : List Tag} → {cs cs' : List Value} → {x : El τ} → {fp : List Nat} → {base base' : Option (Nat × Nat)} → {u : TVal} →
    Rp w F St Al τ tg cs x fp → (∀ t ∈ tg, t = .O) → fp.Nodup → (∀ y, base = some y → y.1 ∉ fp) → locP w τ cs base path = some (cs', base') → getP τ x tg path = some u →
    ∃ fpo fpi, Lens w F St Al τ tg cs x fp base path cs' base' u fpo fpi
  | [], τ, tg, cs, cs', x, fp, base, base', u, h, hO, hn, hb, hl, hg => by
    simp only [locP, Option.some.injEq, Prod.mk.injEq] at hl
    obtain ⟨rfl, rfl⟩ := hl
    have hu : u = ⟨τ, false, x, tg⟩ := by cases τ <;> (simp only [getP, Option.some.injEq] at hg; exact hg.symm)
    subst hu
    refine ⟨[], fp, ⟨by simp, h, hO, by simp [flatB], fun _ => ?_, ?_⟩⟩
    · cases base <;> cases τ <;> simp [offP]
    · intro w' F' St' Al' v csv fpv x' tg' hs hv hvO hvr _
      obtain ⟨vτ, vag, vx, vtg⟩ := v
      simp only at hv hvO hvr
      subst hv
      have hs' : vx = x' ∧ vtg = tg' := by
        cases vτ <;> (simp only [setP, dif_pos, Option.some.injEq, Prod.mk.injEq] at hs; first | exact hs | exact ⟨rfl, hs.2⟩)
      obtain ⟨rfl, rfl⟩ := hs'
      refine ⟨fpv, by simp, hvO, ?_⟩
      have h0 : offP vτ [] = 0 := by cases vτ <;> rfl
      simp only [flatB, if_true, h0]
      rw [splice_nil_all (by rw [hvr.len.1, h.len.1])]
      exact hvr
  | .fst :: p, .pair a b, tg, cs, cs', x, fp, base, base', u, h, hO, hn, hb, hl, hg => by
    obtain ⟨t1, t2, c1, c2, f1, f2, rfl, rfl, rfl, h1, h2⟩ := h
    have i1 := h1.len
    have hl' : locP w a c1 base p = some (cs', base') := by
      simp only [locP] at hl; rw [← i1.1] at hl; simpa using hl
    have hg' : getP a x.1 t1 p = some u := by
      simp only [getP] at hg; rw [← i1.2] at hg; simpa using hg
    have hn1 : f1.Nodup := (List.nodup_append.1 hn).1
    obtain ⟨fpo, fpi, L⟩ := Rp.lens (path := p) h1 (fun t ht => hO t (List.mem_append_left _ ht)) hn1 (fun y hy => fun hm => hb y hy (List.mem_append_left _ hm)) hl' hg'
    have hsub : ∀ c ∈ fpo, c ∈ f1 := fun c hc => L.perm.symm.subset (List.mem_append_left _ hc)
    refine ⟨fpo ++ f2, fpi, ⟨?_, L.part, L.tags, ?_, ?_, ?_⟩⟩
    · refine (List.Perm.append_right f2 L.perm).trans ?_
      rw [List.append_assoc, List.append_assoc]
      exact List.Perm.append_left _ List.perm_append_comm
    · intro hf
      obtain ⟨b', o', m, h3, h4, h5⟩ := L.deep hf
      exact ⟨b', o', m, h3, List.mem_append_left _ h4, h5⟩
    · intro hf; exact L.flat hf
    · intro w' F' St' Al' v csv fpv x' tg' hs hv hvO hvr hp
      simp only [setP] at hs
      rw [← i1.2] at hs
      simp only [List.take_left', List.drop_left', Option.map_eq_some_iff] at hs
      obtain ⟨⟨xa, ta⟩, hs1, hs2⟩ := hs
      simp only [Prod.mk.injEq] at hs2
      obtain ⟨rfl, rfl⟩ := hs2
      obtain ⟨fpn, hpn, htn, hrn⟩ := L.put w' F' St' Al' v csv fpv xa ta hs1 hv hvO hvr (fun c hc => hp c (List.mem_append_left _ hc))
      have h2' : Rp w' F' St' Al' b t2 c2 x.2 f2 := h2.presO (fun t ht => hO t (List.mem_append_right _ ht)) fun c hc => by
        refine (hp c (List.mem_append_right _ hc)).keep ?_
        intro y hy he
        cases hfl : flatB p with
        | true =>
          have := L.flat hfl
          rw [this] at hy
          cases hbs : base with
          | none => rw [hbs] at hy; cases hy
          | some z => rw [hbs] at hy; cases hy; have he' : z.1 = c := he; exact hb z hbs (by rw [he']; exact List.mem_append_right _ hc)
        | false =>
          obtain ⟨b', o', m, h3, h4, h5⟩ := L.deep hfl
          rw [h3] at hy
          cases hy
          exact (List.nodup_append.1 hn).2.2 _ (hsub _ h4) _ hc he
      refine ⟨fpn ++ f2, ?_, ?_, ?_⟩
      · refine (List.Perm.append_right f2 hpn).trans ?_
        rw [List.append_assoc, List.append_assoc]
        exact List.Perm.append_left _ List.perm_append_comm
      · intro t ht
        rcases List.mem_append.1 ht with ht | ht
        · exact htn t ht
        · exact hO t (List.mem_append_right _ ht)
      · have hfe : flatB (.fst :: p) = flatB p := rfl
        rw [hfe]
        cases hfl : flatB p with
        | true =>
          simp only [hfl, if_true] at hrn ⊢
          have hsz := getP_size hfl hg'
          rw [show offP (a.pair b) (.fst :: p) = offP a p from rfl, splice_append_left (by rw [hvr.len.1, hv, i1.1]; omega)]
          exact Rp.pair_mk hrn h2'
        | false =>
          simp only [hfl, Bool.false_eq_true, if_false] at hrn ⊢
          exact Rp.pair_mk hrn h2'
  | .snd :: p, .pair a b, tg, cs, cs', x, fp, base, base', u, h, hO, hn, hb, hl, hg => by
    obtain ⟨t1, t2, c1, c2, f1, f2, rfl, rfl, rfl, h1, h2⟩ := h
    have i1 := h1.len
    have hl' : locP w b c2 (base.map fun x => (x.1, x.2 + size a)) p = some (cs', base') := by
      simp only [locP] at hl; rw [← i1.1] at hl ⊢; simpa using hl
    have hg' : getP b x.2 t2 p = some u := by
      simp only [getP] at hg; rw [← i1.2] at hg; simpa using hg
    have hn1 : f2.Nodup := (List.nodup_append.1 hn).2.1
    obtain ⟨fpo, fpi, L⟩ := Rp.lens (path := p) h2 (fun t ht => hO t (List.mem_append_right _ ht)) hn1 (fun y hy => fun hm => by
      cases hbs : base with
      | none => rw [hbs] at hy; cases hy
      | some z => rw [hbs] at hy; cases hy; exact hb z hbs (List.mem_append_right _ hm)) hl' hg'
    have hsub : ∀ c ∈ fpo, c ∈ f2 := fun c hc => L.perm.symm.subset (List.mem_append_left _ hc)
    refine ⟨f1 ++ fpo, fpi, ⟨?_, L.part, L.tags, ?_, ?_, ?_⟩⟩
    · rw [List.append_assoc]
      exact List.Perm.append_left f1 L.perm
    · intro hf
      obtain ⟨b', o', m, h3, h4, h5⟩ := L.deep hf
      exact ⟨b', o', m, h3, List.mem_append_right _ h4, h5⟩
    · intro hf
      rw [L.flat hf]
      cases base with
      | none => rfl
      | some z => simp [offP, Nat.add_assoc]
    · intro w' F' St' Al' v csv fpv x' tg' hs hv hvO hvr hp
      simp only [setP] at hs
      rw [← i1.2] at hs
      simp only [List.take_left', List.drop_left', Option.map_eq_some_iff] at hs
      obtain ⟨⟨xa, ta⟩, hs1, hs2⟩ := hs
      simp only [Prod.mk.injEq] at hs2
      obtain ⟨rfl, rfl⟩ := hs2
      obtain ⟨fpn, hpn, htn, hrn⟩ := L.put w' F' St' Al' v csv fpv xa ta hs1 hv hvO hvr (fun c hc => hp c (List.mem_append_right _ hc))
      have h1' : Rp w' F' St' Al' a t1 c1 x.1 f1 := h1.presO (fun t ht => hO t (List.mem_append_left _ ht)) fun c hc => by
        refine (hp c (List.mem_append_left _ hc)).keep ?_
        intro y hy he
        cases hfl : flatB p with
        | true =>
          have := L.flat hfl
          rw [this] at hy
          cases hbs : base with
          | none => rw [hbs] at hy; cases hy
          | some z => rw [hbs] at hy; cases hy; have he' : z.1 = c := he; exact hb z hbs (by rw [he']; exact List.mem_append_left _ hc)
        | false =>
          obtain ⟨b', o', m, h3, h4, h5⟩ := L.deep hfl
          rw [h3] at hy
          cases hy
          exact (List.nodup_append.1 hn).2.2 _ hc _ (hsub _ h4) he.symm
      refine ⟨f1 ++ fpn, ?_, ?_, ?_⟩
      · rw [List.append_assoc]
        exact List.Perm.append_left f1 hpn
      · intro t ht
        rcases List.mem_append.1 ht with ht | ht
        · exact hO t (List.mem_append_left _ ht)
        · exact htn t ht
      · have hfe : flatB (.snd :: p) = flatB p := rfl
        rw [hfe]
        cases hfl : flatB p with
        | true =>
          simp only [hfl, if_true] at hrn ⊢
          rw [show offP (a.pair b) (.snd :: p) = size a + offP b p from rfl, ← i1.1, splice_append_right]
          exact Rp.pair_mk h1' hrn
        | false =>
          simp only [hfl, Bool.false_eq_true, if_false] at hrn ⊢
          exact Rp.pair_mk h1' hrn
  | .idx i :: p, .slice e, tg, cs, cs', x, fp, base, base', u, h, hO, hn, hb, hl, hg => by
    obtain ⟨t, a, cap, rfl, rfl, hlc, h⟩ := h
    obtain rfl := hO t (by simp)
    simp only [locP] at hl
    split at hl
    · rename_i b o len cap' heq
      simp only [List.cons.injEq, Value.slice.injEq, and_true] at heq
      obtain ⟨rfl, rfl, rfl⟩ := heq
      split at hl
      · rename_i hi
        split at hl
        · rename_i cse hce
          rcases h with ⟨_, hnn, _⟩ | ⟨ho, b', o', fps, hbb, hal, rfl, hlf, hr, hF, he⟩ | ⟨ho, _⟩
          · cases hnn
          · simp only [Option.some.injEq, Addr.mk.injEq, and_true] at hbb
            obtain ⟨rfl, rfl⟩ := hbb
            obtain ⟨c2, hc2, hk⟩ := he i hi
            rw [hce] at hc2
            cases hc2
            have hg' : getP e (List.get (α := El e) x ⟨i, hi⟩) (List.replicate (leaves e) .O) p = some u := by
              simp only [getP, List.headD_cons, Tag.inner] at hg
              rw [getD_lt _ _ _ hi] at hg
              exact hg
            have hfi : fps.getD i [] = fps[i]'(by omega) := by rw [List.getD_eq_getElem?_getD, List.getElem?_eq_getElem (by omega)]; rfl
            have hnf : fps.flatten.Nodup := (List.nodup_cons.1 hn).2
            have hbn : b ∉ fps.flatten := (List.nodup_cons.1 hn).1
            have hpf := perm_set_flatten fps i (by omega)
            have hsubi : ∀ c ∈ fps[i]'(by omega), c ∈ fps.flatten := fun c hc => List.mem_flatten.2 ⟨_, List.getElem_mem _, hc⟩
            have hni : (fps[i]'(by omega)).Nodup := ((List.nodup_append.1 ((hpf.nodup_iff).1 hnf)).2.1)
            have hbnd : o + i * size e + size e ≤ o + cap * size e := by
              have : (i + 1) * size e ≤ cap * size e := Nat.mul_le_mul_right _ (by omega)
              rw [Nat.add_mul, Nat.one_mul] at this
              omega
            rw [hfi] at hk
            obtain ⟨fpo, fpi, L⟩ := Rp.lens (path := p) hk (by simp [Tag.inner]) hni (fun y hy => by
              cases hy; exact fun hm => hbn (hsubi _ hm)) hl hg'
            have hsub : ∀ c ∈ fpo, c ∈ fps[i]'(by omega) := fun c hc => L.perm.symm.subset (List.mem_append_left _ hc)
            refine ⟨b :: ((fps.set i []).flatten ++ fpo), fpi, ⟨?_, L.part, L.tags, ?_, by simp [flatB], ?_⟩⟩
            · rw [List.cons_append]
              refine List.Perm.cons _ (hpf.trans ?_)
              rw [List.append_assoc]
              exact List.Perm.append_left _ L.perm
            · intro _
              cases hfl : flatB p with
              | true =>
                have h3 := L.flat hfl
                simp only [Option.map_some] at h3
                have hsz := getP_size hfl hg'
                exact ⟨b, _, o + cap * size e, h3, by simp, by omega, hr⟩
              | false =>
                obtain ⟨b', o', m, h3, h4, h5⟩ := L.deep hfl
                exact ⟨b', o', m, h3, by simp [h4], h5⟩
            · intro w' F' St' Al' v csv fpv x' tg' hs hv hvO hvr hp
              simp only [setP, List.headD_cons, Tag.inner, Option.map_eq_some_iff] at hs
              rw [getD_lt _ _ _ hi] at hs
              obtain ⟨⟨xa, ta⟩, hs1, hs2⟩ := hs
              simp only [Prod.mk.injEq] at hs2
              obtain ⟨rfl, rfl⟩ := hs2
              obtain ⟨fpn, hpn, htn, hrn⟩ := L.put w' F' St' Al' v csv fpv xa ta hs1 hv hvO hvr (fun c hc => hp c (by simp [hc]))
              have hta : ta = List.replicate (leaves e) .O := by
                refine List.eq_replicate_iff.2 ⟨hrn.len.2, fun t ht => htn t ht⟩
              subst hta
              have hpb := hp b (by simp)
              -- where the write goes: this row, or one below
              have hbase : ∀ y, base' = some y → (flatB p = true ∧ y = (b, o + i * size e + offP e p)) ∨ (flatB p = false ∧ y.1 ∈ fps[i]'(by omega)) := by
                intro y hy
                cases hfl : flatB p with
                | true =>
                  have h3 := L.flat hfl
                  rw [h3] at hy
                  simp only [Option.map_some, Option.some.injEq] at hy
                  exact .inl ⟨rfl, hy.symm⟩
                | false =>
                  obtain ⟨b', o', m, h3, h4, h5⟩ := L.deep hfl
                  rw [h3] at hy
                  cases hy
                  exact .inr ⟨rfl, hsub _ h4⟩
              have hcl : csv.length = size u.τ := by rw [hvr.len.1, hv]
              -- this row's cells behind the change
              have hrow : (Row w' b (o + cap * size e)) ∧ ∀ k (hk : k < List.length (α := El e) x) c, cellsAt w b (o + k * size e) (size e) = some c →
                  cellsAt w' b (o + k * size e) (size e) = some (if k = i then (if flatB p then splice c (offP e p) csv else c) else c) := by
                cases hfl : flatB p with
                | true =>
                  have hsz := getP_size hfl hg'
                  have h3 : base' = some (b, o + i * size e + offP e p) := by rw [L.flat hfl]; rfl
                  have h4 : w'.heap[b]? = (patchW w b (o + i * size e + offP e p) csv).heap[b]? := by rw [hpb.2.2, h3]; rfl
                  refine ⟨(Row_congr h4).2 (Row_patch (m := o + cap * size e) (by omega) hr hr), fun k hk c hc => ?_⟩
                  rw [cellsAt_congr h4]
                  by_cases hki : k = i
                  · subst hki
                    simp only [if_true]
                    have := cellsAt_patch_in (w := w) (o' := o + k * size e + offP e p) (l := csv) (by omega) (by omega) hc
                    rw [show o + k * size e + offP e p - (o + k * size e) = offP e p by omega] at this
                    exact this
                  · simp only [hki, if_false]
                    refine cellsAt_patch_out ⟨o + cap * size e, by omega, hr⟩ ?_ hc
                    rcases Nat.lt_or_gt_of_ne hki with hlt | hgt
                    · left
                      have : (k + 1) * size e ≤ i * size e := Nat.mul_le_mul_right _ hlt
                      rw [Nat.add_mul, Nat.one_mul] at this
                      omega
                    · right
                      have : (i + 1) * size e ≤ k * size e := Nat.mul_le_mul_right _ hgt
                      rw [Nat.add_mul, Nat.one_mul] at this
                      omega
                | false =>
                  have h4 : w'.heap[b]? = w.heap[b]? := by
                    rw [hpb.2.2]
                    cases hbs : base' with
                    | none => rfl
                    | some y =>
                      rcases hbase y hbs with ⟨hf, _⟩ | ⟨_, hm⟩
                      · rw [hfl] at hf; cases hf
                      · exact patchW_other (fun he => hbn (hsubi _ (by rw [he]; exact hm)))
                  refine ⟨(Row_congr h4).2 hr, fun k hk c hc => ?_⟩
                  rw [cellsAt_congr h4, hc]
                  by_cases hki : k = i <;> simp [hki]
              refine ⟨b :: (fps.set i fpn).flatten, ?_, by simp, ?_⟩
              · rw [List.cons_append]
                refine List.Perm.cons _ ((perm_set_flatten' fps i fpn (by omega)).trans ?_)
                rw [List.append_assoc]
                exact List.Perm.append_left _ hpn
              · simp only [flatB, Bool.false_eq_true, if_false]
                refine ⟨.O, some ⟨b, o, none⟩, cap, rfl, by simp, by simpa using hlc, .inr (.inl ⟨rfl, b, o, fps.set i fpn, rfl, hpb.2.1 hal, rfl, by simpa using hlf, hrow.1, ?_, fun k hk => ?_⟩)⟩
                · rw [hpb.1, hF]; simp
                · have hk0 : k < List.length (α := El e) x := by simpa using hk
                  obtain ⟨c, hc, hkr⟩ := he k hk0
                  refine ⟨_, hrow.2 k hk0 c hc, ?_⟩
                  by_cases hki : k = i
                  · subst hki
                    rw [hce] at hc
                    cases hc
                    simp only [if_true]
                    have e1 : List.get (α := El e) (List.set x k xa) ⟨k, hk⟩ = xa := by simp
                    have e2 : (fps.set k fpn).getD k [] = fpn := by
                      rw [List.getD_eq_getElem?_getD, List.getElem?_set_self (by omega)]; rfl
                    rw [e1, e2]
                    exact hrn
                  · simp only [hki, if_false]
                    have e1 : List.get (α := El e) (List.set x i xa) ⟨k, hk⟩ = List.get (α := El e) x ⟨k, hk0⟩ := by
                      simp only [List.get_eq_getElem]; exact List.getElem_set_ne (Ne.symm hki) _
                    have e2 : (fps.set i fpn).getD k [] = fps.getD k [] := by
                      simp only [List.getD_eq_getElem?_getD]; rw [List.getElem?_set_ne (Ne.symm hki)]
                    rw [e1, e2]
                    refine hkr.presO (by simp [Tag.inner]) fun c hcm => ?_
                    have hck : c ∈ (fps.set i []).flatten := by
                      refine List.mem_flatten.2 ⟨fps[k]'(by omega), ?_, ?_⟩
                      · have : (fps.set i [])[k]'(by simp; omega) = fps[k]'(by omega) := List.getElem_set_ne (Ne.symm hki) _
                        rw [← this]; exact List.getElem_mem _
                      · rw [List.getD_eq_getElem?_getD, List.getElem?_eq_getElem (by omega)] at hcm; exact hcm
                    refine (hp c (by simp [hck])).keep ?_
                    intro y hy hyc
                    rcases hbase y hy with ⟨_, hyb⟩ | ⟨_, hm⟩
                    · rw [hyb] at hyc
                      simp only at hyc
                      refine hbn (List.mem_flatten.2 ⟨fps[k]'(by omega), List.getElem_mem _, ?_⟩)
                      rw [List.getD_eq_getElem?_getD, List.getElem?_eq_getElem (by omega)] at hcm
                      rw [hyc]; exact hcm
                    · have := (List.nodup_append.1 ((hpf.nodup_iff).1 hnf)).2.2 c hck y.1 hm
                      exact this hyc.symm
          · cases ho
        · cases hl
      · cases hl
    · cases hl
  | .fst :: _, .int _, _, _, _, _, _, _, _, _, _, _, _, _, hl, _ => by simp [locP] at hl
  | .fst :: _, .bool, _, _, _, _, _, _, _, _, _, _, _, _, hl, _ => by simp [locP] at hl
  | .fst :: _, .str, _, _, _, _, _, _, _, _, _, _, _, _, hl, _ => by simp [locP] at hl
  | .fst :: _, .unit, _, _, _, _, _, _, _, _, _, _, _, _, hl, _ => by simp [locP] at hl
  | .fst :: _, .slice _, _, _, _, _, _, _, _, _, _, _, _, _, hl, _ => by simp [locP] at hl
  | .snd :: _, .int _, _, _, _, _, _, _, _, _, _, _, _, _, hl, _ => by simp [locP] at hl
  | .snd :: _, .bool, _, _, _, _, _, _, _, _, _, _, _, _, hl, _ => by simp [locP] at hl
  | .snd :: _, .str, _, _, _, _, _, _, _, _, _, _, _, _, hl, _ => by simp [locP] at hl
  | .snd :: _, .unit, _, _, _, _, _, _, _, _, _, _, _, _, hl, _ => by simp [locP] at hl
  | .snd :: _, .slice _, _, _, _, _, _, _, _, _, _, _, _, _, hl, _ => by simp [locP] at hl
  | .idx _ :: _, .int _, _, _, _, _, _, _, _, _, _, _, _, _, hl, _ => by simp [locP] at hl
  | .idx _ :: _, .bool, _, _, _, _, _, _, _, _, _, _, _, _, hl, _ => by simp [locP] at hl
  | .idx _ :: _, .str, _, _, _, _, _, _, _, _, _, _, _, _, hl, _ => by simp [locP] at hl
  | .idx _ :: _, .unit, _, _, _, _, _, _, _, _, _, _, _, _, hl, _ => by simp [locP] at hl
  | .idx _ :: _, .pair _ _, _, _, _, _, _, _, _, _, _, _, _, _, hl, _ => by simp [locP] at hl
end
end Go.PI
namespace Go.PI

theorem locP_pres {w w' : World} {F F' : Nat → Nat} {St Al : Nat → Prop} (hS : ∀ b, St b → KeepB w F w' F' b) :
    {path : List Step} → {τ : Ty} → {tg : List Tag} → {cs : List Value} → {x : El τ} → {fp : List Nat} → {base : Option (Nat × Nat)} → {r : List Value × Option (Nat × Nat)} →
    Rp w F St Al τ tg cs x fp → (∀ b ∈ fp, KeepB w F w' F' b) → ((∀ t ∈ tg, t.isN = false) ∨ ∀ b, b < w.heap.size → Al b → KeepB w F w' F' b) →
    locP w τ cs base path = some r → locP w' τ cs base path = some r
  | [], τ, tg, cs, x, fp, base, r, h, hf, hN, hl => by simp only [locP] at hl ⊢; exact hl
  | .fst :: p, .pair a b, tg, cs, x, fp, base, r, h, hf, hN, hl => by
    have i1 := h.len
    obtain ⟨t1, t2, c1, c2, f1, f2, rfl, rfl, rfl, h1, h2⟩ := h
    have i1 := h1.len
    simp only [locP] at hl ⊢
    rw [← i1.1] at hl ⊢
    rw [List.take_left'] at hl ⊢
    all_goals first | rfl | skip
    exact locP_pres hS (path := p) h1 (fun b hb => hf b (List.mem_append_left _ hb)) (hN.imp (fun h t ht => h t (List.mem_append_left _ ht)) id) hl
  | .snd :: p, .pair a b, tg, cs, x, fp, base, r, h, hf, hN, hl => by
    obtain ⟨t1, t2, c1, c2, f1, f2, rfl, rfl, rfl, h1, h2⟩ := h
    have i1 := h1.len
    simp only [locP] at hl ⊢
    rw [← i1.1] at hl ⊢
    rw [List.drop_left'] at hl ⊢
    all_goals first | rfl | skip
    exact locP_pres hS (path := p) h2 (fun b hb => hf b (List.mem_append_right _ hb)) (hN.imp (fun h t ht => h t (List.mem_append_right _ ht)) id) hl
  | .idx i :: p, .slice e, tg, cs, x, fp, base, r, h, hf, hN, hl => by
    obtain ⟨t, a, cap, rfl, rfl, hlc, h⟩ := h
    have hNe : ((∀ t' ∈ List.replicate (leaves e) t.inner, t'.isN = false) ∨ ∀ b, b < w.heap.size → Al b → KeepB w F w' F' b) :=
      hN.imp (fun h t' ht' => by
        obtain ⟨_, rfl⟩ := List.mem_replicate.1 ht'
        have := h t (by simp)
        cases t <;> simp_all [Tag.isN, Tag.inner]) id
    simp only [locP] at hl ⊢
    split at hl
    · rename_i b o len cap' heq
      simp only [List.cons.injEq, Value.slice.injEq, and_true] at heq
      obtain ⟨rfl, rfl, rfl⟩ := heq
      split at hl
      · rename_i hi
        split at hl
        · rename_i cse hce
          simp only [hi, if_true]
          have hbd : o + i * size e + size e ≤ o + List.length (α := El e) x * size e := by
            have : (i + 1) * size e ≤ List.length (α := El e) x * size e := Nat.mul_le_mul_right _ hi
            rw [Nat.add_mul, Nat.one_mul] at this
            omega
          rcases h with ⟨_, hn, _⟩ | ⟨ho, b', o', fps, hbb, hal, rfl, hlf, hr, hF, he⟩ | ⟨ho, rfl, h⟩
          · cases hn
          · simp only [Option.some.injEq, Addr.mk.injEq, and_true] at hbb
            obtain ⟨rfl, rfl⟩ := hbb
            obtain ⟨c2, hc2, hk⟩ := he i hi
            rw [hce] at hc2
            cases hc2
            rw [(hf b (by simp)).2.1 _ _ _ (by omega) hce]
            refine locP_pres hS (path := p) hk (fun c hc => hf c ?_) hNe hl
            refine List.mem_cons_of_mem _ (List.mem_flatten.2 ⟨_, ?_, hc⟩)
            rw [List.getD_eq_getElem?_getD, List.getElem?_eq_getElem (by omega)]
            exact List.getElem_mem _
          · rcases h with h | ⟨b', o', hbb, htb, hF, he⟩
            · subst h; simp at hi
            · simp only [Option.some.injEq, Addr.mk.injEq, and_true] at hbb
              obtain ⟨rfl, rfl⟩ := hbb
              obtain ⟨c2, hc2, hk⟩ := he i hi
              have hkb : KeepB w F w' F' b := by
                rcases hN with hN | hN
                · have := hN t (by simp)
                  cases t <;> simp_all [Tag.isN, Tag.own, tagB]
                · cases t with
                  | S => exact hS b htb
                  | N => exact hN b (cellsAt_lt hce) htb
                  | _ => cases ho
              rw [hkb.2.1 _ _ _ (by omega) hce]
              rw [hce] at hc2
              cases hc2
              exact locP_pres hS (path := p) hk (by simp) hNe hl
        · cases hl
      · cases hl
    · cases hl
  | .fst :: _, .int _, _, _, _, _, _, _, _, _, _, hl => by simp [locP] at hl
  | .fst :: _, .bool, _, _, _, _, _, _, _, _, _, hl => by simp [locP] at hl
  | .fst :: _, .str, _, _, _, _, _, _, _, _, _, hl => by simp [locP] at hl
  | .fst :: _, .unit, _, _, _, _, _, _, _, _, _, hl => by simp [locP] at hl
  | .fst :: _, .slice _, _, _, _, _, _, _, _, _, _, hl => by simp [locP] at hl
  | .snd :: _, .int _, _, _, _, _, _, _, _, _, _, hl => by simp [locP] at hl
  | .snd :: _, .bool, _, _, _, _, _, _, _, _, _, hl => by simp [locP] at hl
  | .snd :: _, .str, _, _, _, _, _, _, _, _, _, hl => by simp [locP] at hl
  | .snd :: _, .unit, _, _, _, _, _, _, _, _, _, hl => by simp [locP] at hl
  | .snd :: _, .slice _, _, _, _, _, _, _, _, _, _, hl => by simp [locP] at hl
  | .idx _ :: _, .int _, _, _, _, _, _, _, _, _, _, hl => by simp [locP] at hl
  | .idx _ :: _, .bool, _, _, _, _, _, _, _, _, _, hl => by simp [locP] at hl
  | .idx _ :: _, .str, _, _, _, _, _, _, _, _, _, hl => by simp [locP] at hl
  | .idx _ :: _, .unit, _, _, _, _, _, _, _, _, _, hl => by simp [locP] at hl
  | .idx _ :: _, .pair _ _, _, _, _, _, _, _, _, _, _, hl => by simp [locP] at hl

inductive Who where
  | s (i : Nat) | c (i : Nat) | a (i : Nat) | x
  deriving DecidableEq

structure Ghost where
  F : Nat → Nat
  St : Nat → Prop
  who : Nat → Option Who
  fs : Nat → List Nat
  fb : Nat → List Nat
  ad : Nat → Nat

def Ghost.Al (G : Ghost) (b : Nat) : Prop := (∀ i, G.who b ≠ some (.a i)) ∧ (G.who b = none → G.St b)

def vCells : Value → List Value
  | .tuple vs => vs.toList.flatMap fun v => v.cells.toList
  | v => v.cells.toList

def one : Value → Bool
  | .agg _ => false
  | .tuple _ => false
  | _ => true

def Shaped : Bool → Value → Prop
  | true, v => ∃ cs, v = .agg cs
  | false, v => one v = true

theorem Shaped.cells {ag : Bool} {v : Value} (h : Shaped ag v) : vCells v = v.cells.toList := by
  cases ag
  · cases v <;> simp_all [Shaped, one, vCells]
  · obtain ⟨cs, rfl⟩ := h; rfl

def TupShape : Ty → List Bool → List Value → Prop
  | τ, [ag], [v] => Shaped ag v ∧ (vCells v).length = size τ
  | .pair a b, ag :: ag' :: ags, v :: vs => Shaped ag v ∧ (vCells v).length = size a ∧ TupShape b (ag' :: ags) vs
  | _, _, _ => False

def rootLoc (G : Ghost) (a : Act) (w : World) (p : Place) : Option (List Value × Option (Nat × Nat)) :=
  match p.box with
  | true => match w.heap[G.ad p.root]? with
    | some (.cells c _ _) => some (c.toList, some (G.ad p.root, 0))
    | _ => none
  | false => some (vCells (a.tmps.getD p.root undef), none)

def State.ct (σ : State) (p : Place) : Option Ty := (σ.content p).map (·.τ)

def PlaceAt (σ : State) (G : Ghost) (a : Act) (w : World) (p : Place) (cs : List Value) (base : Option (Nat × Nat)) : Prop :=
  ∃ τ l b, σ.ct p = some τ ∧ rootLoc G a w p = some (l, b) ∧ locP w τ l b p.path = some (cs, base)

def PtrRel (σ : State) (G : Ghost) (a : Act) (w : World) (p : Place) (v : Value) : Prop :=
  σ.ct p = none ∨ ∃ cs b, PlaceAt σ G a w p cs (some b) ∧ v = .pointer (some ⟨b.1, b.2, none⟩)

def SPtr (w : World) (F : Nat → Nat) (St Al : Nat → Prop) (τ : Ty) (x : El τ) (v : Value) : Prop :=
  ∃ b o cs, v = .pointer (some ⟨b, o, none⟩) ∧ cellsAt w b o (size τ) = some cs ∧ St b ∧ o + size τ ≤ F b ∧ Rp w F St Al τ (List.replicate (leaves τ) .S) cs x []
def SPs (w : World) (F : Nat → Nat) (St Al : Nat → Prop) : List Ty → (τ : Ty) → El τ → List Value → Prop
  | [], _, _, us => us = []
  | [τ'], τ, x, us => τ' = τ ∧ ∃ u, us = [u] ∧ SPtr w F St Al τ x u
  | τ' :: τ'' :: τs, .pair a b, x, us => τ' = a ∧ ∃ u us', us = u :: us' ∧ SPtr w F St Al a x.1 u ∧ SPs w F St Al (τ'' :: τs) b x.2 us'
  | _, _, _, _ => False

theorem SPtr.pres {w w' : World} {F F' : Nat → Nat} {St Al St' Al' : Nat → Prop} (hSt : ∀ b, St b → St' b) (hAl : ∀ b, b < w.heap.size → Al b → Al' b) (hS : ∀ b, St b → KeepB w F w' F' b) {τ : Ty} {x : El τ} {v : Value} (h : SPtr w F St Al τ x v) : SPtr w' F' St' Al' τ x v := by
  obtain ⟨b, o, cs, h1, h2, h3, h4, h5⟩ := h
  have hk := hS b h3
  exact ⟨b, o, cs, h1, hk.2.1 _ _ _ h4 h2, hSt b h3, Nat.le_trans h4 hk.1, h5.pres hSt hAl hS (by simp) (.inl fun t ht => by rw [(List.mem_replicate.1 ht).2]; rfl)⟩
theorem SPs.pres {w w' : World} {F F' : Nat → Nat} {St Al St' Al' : Nat → Prop} (hSt : ∀ b, St b → St' b) (hAl : ∀ b, b < w.heap.size → Al b → Al' b) (hS : ∀ b, St b → KeepB w F w' F' b) :
    (τs : List Ty) → (τ : Ty) → (x : El τ) → (us : List Value) → SPs w F St Al τs τ x us → SPs w' F' St' Al' τs τ x us
  | [], _, _, _, h => h
  | [_], _, _, _, h => ⟨h.1, let ⟨u, h2, h3⟩ := h.2; ⟨u, h2, h3.pres hSt hAl hS⟩⟩
  | _ :: τ'' :: τs, .pair a b, x, _, h => ⟨h.1, let ⟨u, us', h2, h3, h4⟩ := h.2; ⟨u, us', h2, h3.pres hSt hAl hS, SPs.pres hSt hAl hS (τ'' :: τs) b x.2 us' h4⟩⟩
  | _ :: _ :: _, .int _, _, _, h => h.elim
  | _ :: _ :: _, .bool, _, _, h => h.elim
  | _ :: _ :: _, .str, _, _, h => h.elim
  | _ :: _ :: _, .unit, _, _, h => h.elim
  | _ :: _ :: _, .slice _, _, _, h => h.elim

def SlotRel (σ : State) (G : Ghost) (a : Act) (w : World) : TV → Value → List Nat → Prop
  | .dead, _, fp => fp = []
  | .un, v, fp => v = undef ∧ fp = []
  | .nil, v, fp => v = .slice none 0 0 ∧ fp = []
  | .val u, v, fp => Shaped u.ag v ∧ Rp w G.F G.St G.Al u.τ u.tg (vCells v) u.x fp
  | .tup u ags, v, fp => (∃ vs, v = .tuple vs ∧ TupShape u.τ ags vs.toList) ∧ Rp w G.F G.St G.Al u.τ u.tg (vCells v) u.x fp
  | .ref p ag, v, fp => fp = [] ∧ (σ.ct p = none ∨ ∃ cs base, PlaceAt σ G a w p cs base ∧ vCells v = cs ∧ Shaped ag v)
  | .ptr p, v, fp => fp = [] ∧ p.box = true ∧ flatB p.path = true ∧ PtrRel σ G a w p v
  | .eptr u t, v, fp => fp = [] ∧ t.own = false ∧ ∃ b o cs, v = .pointer (some ⟨b, o, none⟩) ∧ cellsAt w b o (size u.τ) = some cs ∧ tagB G.St G.Al t b ∧ o + size u.τ ≤ G.F b ∧
      (t.isN = false → ∀ t' ∈ u.tg, t'.isN = false) ∧ Rp w G.F G.St G.Al u.τ u.tg cs u.x []
  | .eref p, v, fp => fp = [] ∧ PtrRel σ G a w p v
  | .sptr r τr p, v, fp => fp = [] ∧ flatB p = true ∧ ∃ b o τ, v = .pointer (some ⟨b, o, none⟩) ∧ tyAt τr p = some τ ∧ (vCells (a.tmps.getD r undef)).length = size τr ∧
      cellsAt w b o (size τ) = some (((vCells (a.tmps.getD r undef)).drop (offP τr p)).take (size τ)) ∧ G.St b ∧ o + size τ ≤ G.F b
  | .tref t ags, v, fp => fp = [] ∧ ∀ τ, σ.ct ⟨false, t, []⟩ = some τ → rootLoc G a w ⟨false, t, []⟩ = some (vCells v, none) ∧ ∃ vs, v = .tuple vs ∧ TupShape τ ags vs.toList
  | .clos f ps, v, fp => fp = [] ∧ ∃ vs : Array Value, v = .func (.func f) #[] vs ∧ vs.size = ps.length ∧ ∀ i (h : i < ps.length), ps[i].box = true ∧ flatB ps[i].path = true ∧ PtrRel σ G a w ps[i] (vs.getD i undef)
  | .sclos f τs u, v, fp => fp = [] ∧ ∃ us : Array Value, v = .func (.func f) #[] us ∧ SPs w G.F G.St G.Al τs u.τ u.x us.toList

structure Ext (M : Nat → Prop) (w w' : World) : Prop where
  os : w'.os = w.os
  tape : w'.tape = w.tape
  output : w'.output = w.output
  size : w.heap.size ≤ w'.heap.size
  block : ∀ b, b < w.heap.size → ¬ M b → w'.heap[b]? = w.heap[b]?

theorem Ext.refl (M : Nat → Prop) (w : World) : Ext M w w := ⟨rfl, rfl, rfl, Nat.le_refl _, fun _ _ _ => rfl⟩

structure Base extends World where
  ad0 : Nat → Nat
  F0 : Nat → Nat
  St0 : Nat → Prop
  np : Nat
  arg : Nat → Value

structure Org (W0 : Base) (M : Nat → Prop) (G : Ghost) : Prop where
  F : ∀ b, b < W0.heap.size → ¬ M b → G.F b = W0.F0 b
  St : ∀ b, W0.St0 b → G.St b
  St' : ∀ b, G.St b → W0.St0 b ∨ W0.heap.size ≤ b ∨ M b

structure Inv (W0 : Base) (M : Nat → Prop) (σ : State) (a : Act) (w : World) (G : Ghost) (xs : List Nat) : Prop where
  defers : a.defers = []
  len : a.tmps.size = σ.slots.length
  slot : ∀ i, i < σ.slots.length → SlotRel σ G a w (σ.slot i) (a.tmps.getD i undef) (G.fs i)
  box : ∀ i v, σ.boxAt i = some v → (∃ c T, w.heap[G.ad i]? = some (.cells c T (0, 0)) ∧ Rp w G.F G.St G.Al v.τ v.tg c.toList v.x (G.fb i)) ∧ G.who (G.ad i) = some (.a i)
  whoS : ∀ i b, b ∈ G.fs i → G.who b = some (.s i)
  whoC : ∀ i b, b ∈ G.fb i → G.who b = some (.c i)
  whoX : ∀ b, b ∈ xs → G.who b = some .x
  nodS : ∀ i, (G.fs i).Nodup
  nodC : ∀ i, (G.fb i).Nodup
  nodX : xs.Nodup
  st : ∀ b, G.St b → G.who b = none ∧ b < w.heap.size
  lt : ∀ b z, G.who b = some z → b < w.heap.size ∧ (W0.heap.size ≤ b ∨ M b)
  ext : Ext M W0.toWorld w
  adx : ∀ i, σ.slots.length ≤ i → G.ad i = W0.ad0 i
  org : Org W0 M G
  pin : ∀ i, i < W0.np → a.tmps.getD i undef = W0.arg i

theorem Ghost.St_Al {W0 : Base} {M : Nat → Prop} {σ : State} {a : Act} {w : World} {G : Ghost} {xs : List Nat} (I : Inv W0 M σ a w G xs) : ∀ b, G.St b → G.Al b :=
  fun b hb => ⟨fun i h => (by rw [(I.st b hb).1] at h; cases h), fun _ => hb⟩

def TV.noN : TV → Bool
  | .val u => u.noN
  | .tup u _ => u.noN
  | .eptr _ t => !t.isN
  | _ => true
def State.noN (σ : State) : Prop := (∀ i, (σ.slot i).noN = true) ∧ ∀ i v, σ.boxAt i = some v → v.noN = true

theorem TVal.noN_iff {v : TVal} : v.noN = true ↔ ∀ t ∈ v.tg, t.isN = false := by
  unfold TVal.noN; rw [List.all_eq_true]
  constructor
  · intro h t ht; have := h t ht; cases t <;> simp_all [Tag.isN]
  · intro h t ht; have := h t ht; cases t <;> simp_all [Tag.isN]

section
variable {W0 : Base} {M : Nat → Prop} {σ : State} {a : Act} {w : World} {G : Ghost} {xs : List Nat}

theorem content_root {p : Place} {c : TVal} (I : Inv W0 M σ a w G xs) (h : σ.content p = some c) :
    ∃ l b fp, rootLoc G a w p = some (l, b) ∧ Rp w G.F G.St G.Al c.τ c.tg l c.x fp ∧
      ((p.box = true ∧ σ.boxAt p.root = some c ∧ fp = G.fb p.root ∧ b = some (G.ad p.root, 0)) ∨
       (p.box = false ∧ p.root < σ.slots.length ∧ fp = G.fs p.root ∧ b = none ∧ (σ.slot p.root = .val c ∨ ∃ ags, σ.slot p.root = .tup c ags))) := by
  obtain ⟨box, root, path⟩ := p
  cases box with
  | true =>
    simp only [State.content] at h
    obtain ⟨⟨cs, T, hb, hr⟩, _⟩ := I.box root c h
    exact ⟨cs.toList, some (G.ad root, 0), _, by simp [rootLoc, hb], hr, .inl ⟨rfl, h, rfl, rfl⟩⟩
  | false =>
    simp only [State.content] at h
    have hlt : root < σ.slots.length := by
      rcases Nat.lt_or_ge root σ.slots.length with h1 | h1
      · exact h1
      · have : ∀ (l : List TV) (i : Nat), l.length ≤ i → getN TV.dead l i = .dead := by
          intro l
          induction l with
          | nil => intro i _; rfl
          | cons t l ih => intro i hi; cases i with
            | zero => simp at hi
            | succ i => exact ih i (by simpa using hi)
        simp [State.slot, this _ _ h1] at h
    have hs := I.slot root hlt
    cases hsl : σ.slot root with
    | val v =>
      rw [hsl] at h hs
      cases h
      exact ⟨_, none, G.fs root, rfl, hs.2, .inr ⟨rfl, hlt, rfl, rfl, .inl rfl⟩⟩
    | tup v ags =>
      rw [hsl] at h hs
      cases h
      exact ⟨_, none, G.fs root, rfl, hs.2, .inr ⟨rfl, hlt, rfl, rfl, .inr ⟨ags, rfl⟩⟩⟩
    | _ => rw [hsl] at h; cases h

structure Same (σ : State) (w : World) (G : Ghost) (w' : World) (G' : Ghost) : Prop where
  fs : G'.fs = G.fs
  fb : G'.fb = G.fb
  ad : G'.ad = G.ad
  who : ∀ b z, G.who b = some z → z ≠ .x → G'.who b = some z
  Al : ∀ b, b < w.heap.size → G.Al b → G'.Al b
  St : ∀ b, G.St b → G'.St b
  S : ∀ b, G.St b → KeepB w G.F w' G'.F b
  own : ∀ b z, G.who b = some z → (∀ i, z ≠ .a i) → z ≠ .x → KeepB w G.F w' G'.F b ∧ G'.F b = G.F b
  box : ∀ i v, σ.boxAt i = some v → w'.heap[G.ad i]? = w.heap[G.ad i]?
  N : σ.noN ∨ ∀ b, b < w.heap.size → G.Al b → KeepB w G.F w' G'.F b

theorem PlaceAt.world {w' : World} {G' : Ghost} (I : Inv W0 M σ a w G xs) (S : Same σ w G w' G') {p : Place} {cs : List Value} {base : Option (Nat × Nat)} (h : PlaceAt σ G a w p cs base) :
    PlaceAt σ G' a w' p cs base := by
  obtain ⟨τ, l, b, hct, hr, hl⟩ := h
  obtain ⟨c, hc, rfl⟩ := Option.map_eq_some_iff.1 hct
  obtain ⟨l', b', fp, hr', hrp, hw⟩ := content_root I hc
  rw [hr] at hr'
  cases hr'
  refine ⟨c.τ, l, b, hct, ?_, ?_⟩
  · obtain ⟨box, root, path⟩ := p
    rcases hw with ⟨hb, hbx, _⟩ | ⟨hb, _⟩
    · simp only at hb hbx; subst hb
      simp only [rootLoc] at hr ⊢
      rw [S.ad, S.box _ _ hbx]
      exact hr
    · simp only at hb; subst hb
      exact hr
  · refine locP_pres S.S hrp (fun x hx => ?_) ?_ hl
    · rcases hw with ⟨_, _, rfl, _⟩ | ⟨_, _, rfl, _⟩
      · exact (S.own x _ (I.whoC _ x hx) (by simp) (by simp)).1
      · exact (S.own x _ (I.whoS _ x hx) (by simp) (by simp)).1
    · refine S.N.imp (fun hn => ?_) id
      rcases hw with ⟨_, hbx, _⟩ | ⟨_, _, _, _, hsl | ⟨ags, hsl⟩⟩
      · exact TVal.noN_iff.1 (hn.2 _ _ hbx)
      · have := hn.1 p.root; rw [hsl] at this; exact TVal.noN_iff.1 this
      · have := hn.1 p.root; rw [hsl] at this; exact TVal.noN_iff.1 this

theorem PtrRel.world {w' : World} {G' : Ghost} (I : Inv W0 M σ a w G xs) (S : Same σ w G w' G') {p : Place} {v : Value} (h : PtrRel σ G a w p v) : PtrRel σ G' a w' p v :=
  h.imp id fun ⟨cs, b, h1, h2⟩ => ⟨cs, b, h1.world I S, h2⟩

theorem Rp.world {w' : World} {G' : Ghost} (S : Same σ w G w' G') {τ : Ty} {tg : List Tag} {cs : List Value} {x : El τ} {fp : List Nat} (h : Rp w G.F G.St G.Al τ tg cs x fp)
    (hf : ∀ b ∈ fp, ∃ z, G.who b = some z ∧ (∀ i, z ≠ .a i) ∧ z ≠ .x) (hN : σ.noN → ∀ t ∈ tg, t.isN = false) : Rp w' G'.F G'.St G'.Al τ tg cs x fp :=
  h.pres S.St S.Al S.S (fun b hb => let ⟨z, h1, h2, h3⟩ := hf b hb; S.own b z h1 h2 h3) (S.N.imp hN id)

theorem SlotRel.world {w' : World} {G' : Ghost} (I : Inv W0 M σ a w G xs) (S : Same σ w G w' G') {tv : TV} {v : Value} {fp : List Nat} (h : SlotRel σ G a w tv v fp)
    (hf : ∀ b ∈ fp, ∃ z, G.who b = some z ∧ (∀ i, z ≠ .a i) ∧ z ≠ .x) (hN : σ.noN → tv.noN = true) : SlotRel σ G' a w' tv v fp := by
  cases tv with
  | dead => exact h
  | un => exact h
  | nil => exact h
  | val u => exact ⟨h.1, h.2.world S hf fun hn => TVal.noN_iff.1 (hN hn)⟩
  | tup u ags => exact ⟨h.1, h.2.world S hf fun hn => TVal.noN_iff.1 (hN hn)⟩
  | ref p ag => exact ⟨h.1, h.2.imp id fun ⟨cs, b, h1, h2⟩ => ⟨cs, b, h1.world I S, h2⟩⟩
  | ptr p => exact ⟨h.1, h.2.1, h.2.2.1, h.2.2.2.world I S⟩
  | eref p => exact ⟨h.1, h.2.world I S⟩
  | tref t ags => exact h
  | sptr r τr p =>
    obtain ⟨h1, h2, b, o, τ, h3, h4, h5, h6, h7, h8⟩ := h
    have hk := S.S b h7
    exact ⟨h1, h2, b, o, τ, h3, h4, h5, hk.2.1 _ _ _ h8 h6, S.St b h7, Nat.le_trans h8 hk.1⟩
  | clos f ps =>
    obtain ⟨h1, vs, h2, h3, h4⟩ := h
    exact ⟨h1, vs, h2, h3, fun i hi => ⟨(h4 i hi).1, (h4 i hi).2.1, (h4 i hi).2.2.world I S⟩⟩
  | sclos f τs u =>
    obtain ⟨h1, us, h2, h3⟩ := h
    exact ⟨h1, us, h2, SPs.pres S.St S.Al S.S _ _ _ _ h3⟩
  | eptr u t =>
    obtain ⟨h1, h2, b, o, cs, h3, h4, h5, h6, h7, h8⟩ := h
    have hk : KeepB w G.F w' G'.F b := by
      rcases S.N with hn | hn
      · have := hN hn
        cases t <;> simp_all [TV.noN, Tag.isN, Tag.own, tagB]
        exact S.S b h5
      · cases t with
        | S => exact S.S b h5
        | N => exact hn b (cellsAt_lt h4) h5
        | _ => cases h2
    refine ⟨h1, h2, b, o, cs, h3, hk.2.1 _ _ _ h6 h4, ?_, Nat.le_trans h6 hk.1, h7, h8.world S (by simp) fun hn => h7 ?_⟩
    · cases t with
      | S => exact S.St b h5
      | N => exact S.Al b (cellsAt_lt h4) h5
      | _ => cases h2
    · have := hN hn
      cases t <;> simp_all [TV.noN, Tag.isN]

theorem Inv.world {w' : World} {G' : Ghost} (I : Inv W0 M σ a w G xs) (S : Same σ w G w' G') (hst : ∀ b, G'.St b → G'.who b = none ∧ b < w'.heap.size)
    (hlt : ∀ b z, G'.who b = some z → b < w'.heap.size ∧ (W0.heap.size ≤ b ∨ M b)) (he : Ext M W0.toWorld w') {xs' : List Nat} (hx : ∀ b ∈ xs', G'.who b = some .x) (hxn : xs'.Nodup) (ho : Org W0 M G')
    : Inv W0 M σ a w' G' xs' where
  defers := I.defers
  len := I.len
  slot i hi := by
    rw [S.fs]
    refine (I.slot i hi).world I S (fun b hb => ⟨_, I.whoS i b hb, by simp, by simp⟩) fun hn => hn.1 i
  box i v hv := by
    obtain ⟨⟨c, T, hb, hr⟩, hw⟩ := I.box i v hv
    rw [S.ad, S.fb, S.box i v hv]
    refine ⟨⟨c, T, hb, hr.world S (fun b hb => ⟨_, I.whoC i b hb, by simp, by simp⟩) fun hn => TVal.noN_iff.1 (hn.2 i v hv)⟩, ?_⟩
    exact S.who _ _ hw (by simp)
  whoS i b hb := by rw [S.fs] at hb; exact S.who b _ (I.whoS i b hb) (by simp)
  whoC i b hb := by rw [S.fb] at hb; exact S.who b _ (I.whoC i b hb) (by simp)
  whoX := hx
  nodS i := by rw [S.fs]; exact I.nodS i
  nodC i := by rw [S.fb]; exact I.nodC i
  nodX := hxn
  st := hst
  lt := hlt
  ext := he
  adx i hi := by rw [S.ad]; exact I.adx i hi
  org := ho
  pin := I.pin
end
end Go.PI
namespace Go.PI

theorem getN_ge {α : Type} {d : α} : ∀ (l : List α) (i : Nat), l.length ≤ i → getN d l i = d
  | [], _, _ => rfl
  | a :: l, 0, h => by simp at h
  | a :: l, i + 1, h => getN_ge l i (by simpa using h)

theorem setN_length {α : Type} : ∀ (l : List α) (i : Nat) (v : α), (setN l i v).length = l.length
  | [], _, _ => rfl
  | _ :: _, 0, _ => rfl
  | _ :: l, i + 1, v => by simp [setN, setN_length l i v]

theorem getN_setN {α : Type} {d : α} : ∀ (l : List α) (i j : Nat) (v : α), getN d (setN l i v) j = if i = j ∧ i < l.length then v else getN d l j
  | [], i, j, v => by simp [setN, getN]
  | a :: l, 0, 0, v => by simp [setN, getN]
  | a :: l, 0, j + 1, v => by simp [setN, getN]
  | a :: l, i + 1, 0, v => by simp [setN, getN]
  | a :: l, i + 1, j + 1, v => by simp [setN, getN, getN_setN l i j v]

theorem getN_map {α : Type} {d : α} (f : α → α) (hf : f d = d) : ∀ (l : List α) (i : Nat), getN d (l.map f) i = f (getN d l i)
  | [], _ => by simp [getN, hf]
  | a :: l, 0 => rfl
  | a :: l, i + 1 => getN_map f hf l i

theorem setN_ge {α : Type} : ∀ (l : List α) (i : Nat) (v : α), l.length ≤ i → setN l i v = l
  | [], _, _, _ => rfl
  | _ :: _, 0, _, h => by simp at h
  | a :: l, i + 1, v, h => by simp [setN, setN_ge l i v (by simpa using h)]

section
variable {W0 : Base} {M : Nat → Prop} {σ : State} {a : Act} {w : World} {G : Ghost} {xs : List Nat}

def Less (σ σ' : State) : Prop := ∀ p, σ'.ct p = σ.ct p ∨ σ'.ct p = none

theorem PtrRel.less {σ' : State} (hL : Less σ σ') {p : Place} {v : Value} (h : PtrRel σ G a w p v) : PtrRel σ' G a w p v := by
  rcases hL p with hp | hp
  · rcases h with h | ⟨cs, b, ⟨τ, l, b', h1, h2⟩, h3⟩
    · exact .inl (hp.trans h)
    · exact .inr ⟨cs, b, ⟨τ, l, b', hp.trans h1, h2⟩, h3⟩
  · exact .inl hp

theorem SlotRel.less {σ' : State} (hL : Less σ σ') {tv : TV} {v : Value} {fp : List Nat} (h : SlotRel σ G a w tv v fp) : SlotRel σ' G a w tv v fp := by
  cases tv with
  | dead => exact h
  | un => exact h
  | nil => exact h
  | val u => exact h
  | tup u ags => exact h
  | eptr u t => exact h
  | sclos f τs u => exact h
  | sptr r τr p => exact h
  | ptr p => exact ⟨h.1, h.2.1, h.2.2.1, h.2.2.2.less hL⟩
  | eref p => exact ⟨h.1, h.2.less hL⟩
  | tref t ags =>
    refine ⟨h.1, fun τ hτ => ?_⟩
    rcases hL ⟨false, t, []⟩ with hp | hp
    · exact h.2 τ (hp.symm.trans hτ)
    · rw [hp] at hτ; cases hτ
  | clos f ps =>
    obtain ⟨h1, vs, h2, h3, h4⟩ := h
    exact ⟨h1, vs, h2, h3, fun i hi => ⟨(h4 i hi).1, (h4 i hi).2.1, (h4 i hi).2.2.less hL⟩⟩
  | ref p ag =>
    refine ⟨h.1, ?_⟩
    rcases hL p with hp | hp
    · rcases h.2 with h | ⟨cs, b, ⟨τ, l, b', h1, h2⟩, h3⟩
      · exact .inl (hp.trans h)
      · exact .inr ⟨cs, b, ⟨τ, l, b', hp.trans h1, h2⟩, h3⟩
    · exact .inl hp

theorem Inv.drop (I : Inv W0 M σ a w G xs) {σ' : State} (hlen : σ'.slots.length = σ.slots.length) (hs : ∀ i, σ'.slot i = σ.slot i ∨ σ'.slot i = .dead)
    (hb : ∀ i, σ'.boxAt i = σ.boxAt i ∨ σ'.boxAt i = none) : ∃ fs, Inv W0 M σ' a w { G with fs := fs } xs ∧ ∀ i, σ'.slot i = σ.slot i → fs i = G.fs i := by
  classical
  have hL : Less σ σ' := by
    intro p
    obtain ⟨box, root, path⟩ := p
    cases box with
    | true =>
      simp only [State.ct, State.content]
      rcases hb root with h | h <;> simp [h]
    | false =>
      simp only [State.ct, State.content]
      rcases hs root with h | h <;> simp [h]
  refine ⟨fun i => if σ'.slot i = σ.slot i then G.fs i else [], ⟨I.defers, by rw [hlen]; exact I.len, fun i hi => ?_, fun i v hv => ?_, fun i b hm => ?_, I.whoC, I.whoX, fun i => ?_, I.nodC, I.nodX, I.st, I.lt, I.ext, fun i hi => I.adx i (by rw [← hlen]; exact hi), ⟨I.org.F, I.org.St, I.org.St'⟩, I.pin⟩, fun i hi => by simp [hi]⟩
  · simp only []
    by_cases he : σ'.slot i = σ.slot i
    · simp only [he, if_true]
      exact (I.slot i (by rw [← hlen]; exact hi)).less hL
    · simp only [he, if_false]
      rw [(hs i).resolve_left he]
      rfl
  · rcases hb i with h | h
    · exact I.box i v (h ▸ hv)
    · rw [h] at hv; cases hv
  · simp only [] at hm
    split at hm
    · exact I.whoS i b hm
    · simp at hm
  · simp only []
    split
    · exact I.nodS i
    · simp

theorem loosen_slot (σ : State) (box : Bool) (root i : Nat) : (σ.loosen box root).slot i = TV.loosen box root (σ.slot i) := getN_map _ rfl _ _
theorem unpoint_slot (σ : State) (root i : Nat) : (σ.unpoint root).slot i = TV.unpoint root (σ.slot i) := getN_map _ rfl _ _
theorem kill_slot (σ : State) (i : Nat) : σ.kill.slot i = TV.kill (σ.slot i) := getN_map _ rfl _ _
theorem kill_box (σ : State) (i : Nat) : σ.kill.boxAt i = killBox (σ.boxAt i) := getN_map _ rfl _ _

theorem TV.loosen_or (box : Bool) (root : Nat) (tv : TV) : TV.loosen box root tv = tv ∨ TV.loosen box root tv = .dead := by
  cases tv <;> first | exact .inl rfl | (simp only [TV.loosen]; split <;> simp)
theorem TV.unpoint_or (root : Nat) (tv : TV) : TV.unpoint root tv = tv ∨ TV.unpoint root tv = .dead := by
  cases tv <;> first | exact .inl rfl | (simp only [TV.unpoint]; split <;> simp)
theorem TV.kill_or (tv : TV) : TV.kill tv = tv ∨ TV.kill tv = .dead := by
  cases tv <;> first | exact .inl rfl | (simp only [TV.kill]; split <;> simp)

theorem Inv.loosen (I : Inv W0 M σ a w G xs) (box : Bool) (root : Nat) : ∃ fs, Inv W0 M (σ.loosen box root) a w { G with fs := fs } xs ∧ ∀ i, (σ.loosen box root).slot i = σ.slot i → fs i = G.fs i :=
  I.drop (by simp [State.loosen]) (fun i => by rw [loosen_slot]; exact TV.loosen_or _ _ _) (fun i => .inl rfl)
theorem Inv.unpoint (I : Inv W0 M σ a w G xs) (root : Nat) : ∃ fs, Inv W0 M (σ.unpoint root) a w { G with fs := fs } xs ∧ ∀ i, (σ.unpoint root).slot i = σ.slot i → fs i = G.fs i :=
  I.drop (by simp [State.unpoint]) (fun i => by rw [unpoint_slot]; exact TV.unpoint_or _ _) (fun i => .inl rfl)
theorem Inv.kill (I : Inv W0 M σ a w G xs) : ∃ fs, Inv W0 M σ.kill a w { G with fs := fs } xs ∧ ∀ i, σ.kill.slot i = σ.slot i → fs i = G.fs i :=
  I.drop (by simp [State.kill]) (fun i => by rw [kill_slot]; exact TV.kill_or _) (fun i => by rw [kill_box]; cases σ.boxAt i with | none => exact .inl rfl | some v => simp only [killBox]; split <;> simp)

theorem kill_noN (σ : State) : σ.kill.noN := by
  constructor
  · intro i
    rw [kill_slot]
    cases σ.slot i with
    | val v => simp only [TV.kill]; split <;> simp_all [TV.noN]
    | tup v ags => simp only [TV.kill]; split <;> simp_all [TV.noN]
    | eptr v t => simp only [TV.kill]; split <;> simp_all [TV.noN]
    | _ => rfl
  · intro i v hv
    rw [kill_box] at hv
    cases hb : σ.boxAt i with
    | none => rw [hb] at hv; cases hv
    | some u =>
      rw [hb] at hv
      simp only [killBox] at hv
      split at hv
      · cases hv; assumption
      · cases hv

theorem SlotRel.ghost {G' : Ghost} (hF : G'.F = G.F) (hS : G'.St = G.St) (had : ∀ i, G'.ad i = G.ad i) (hA : G'.Al = G.Al) {tv : TV} {v : Value} {fp : List Nat} (h : SlotRel σ G a w tv v fp) : SlotRel σ G' a w tv v fp := by
  have hr : ∀ p, rootLoc G' a w p = rootLoc G a w p := fun p => by unfold rootLoc; rw [had]
  have hp : ∀ p v, PtrRel σ G a w p v → PtrRel σ G' a w p v := fun p v h => h.imp id fun ⟨cs, b, ⟨τ, l, b', h1, h2, h3⟩, h4⟩ => ⟨cs, b, ⟨τ, l, b', h1, by rw [hr]; exact h2, h3⟩, h4⟩
  cases tv with
  | dead => exact h
  | un => exact h
  | nil => exact h
  | val u => simp only [SlotRel] at h ⊢; rw [hF, hS, hA]; exact h
  | tup u ags => simp only [SlotRel] at h ⊢; rw [hF, hS, hA]; exact h
  | eptr u t => simp only [SlotRel] at h ⊢; rw [hF, hS, hA]; exact h
  | sclos f τs u => simp only [SlotRel] at h ⊢; rw [hF, hS, hA]; exact h
  | sptr r τr p => simp only [SlotRel] at h ⊢; rw [hF, hS]; exact h
  | ptr p => exact ⟨h.1, h.2.1, h.2.2.1, hp _ _ h.2.2.2⟩
  | eref p => exact ⟨h.1, hp _ _ h.2⟩
  | tref t ags => exact ⟨h.1, fun τ hτ => ⟨by rw [hr]; exact (h.2 τ hτ).1, (h.2 τ hτ).2⟩⟩
  | clos f ps =>
    obtain ⟨h1, vs, h2, h3, h4⟩ := h
    exact ⟨h1, vs, h2, h3, fun i hi => ⟨(h4 i hi).1, (h4 i hi).2.1, hp _ _ (h4 i hi).2.2⟩⟩
  | ref p ag => exact ⟨h.1, h.2.imp id fun ⟨cs, b, ⟨τ, l, b', h1, h2, h3⟩, h4⟩ => ⟨cs, b, ⟨τ, l, b', h1, by rw [hr]; exact h2, h3⟩, h4⟩⟩


end

structure Sim (G G' : Ghost) : Prop where
  F : G'.F = G.F
  St : G'.St = G.St
  ad : G'.ad = G.ad
  Al : G'.Al = G.Al
  bx : ∀ b i, G'.who b = some (.a i) ↔ G.who b = some (.a i)

theorem Sim.refl (G : Ghost) : Sim G G := ⟨rfl, rfl, rfl, rfl, fun _ _ => Iff.rfl⟩
theorem Sim.trans {G1 G2 G3 : Ghost} (h : Sim G1 G2) (k : Sim G2 G3) : Sim G1 G3 :=
  ⟨k.F.trans h.F, k.St.trans h.St, k.ad.trans h.ad, k.Al.trans h.Al, fun b i => (k.bx b i).trans (h.bx b i)⟩
theorem Sim.fs (G : Ghost) (fs : Nat → List Nat) : Sim G { G with fs := fs } := ⟨rfl, rfl, rfl, rfl, fun _ _ => Iff.rfl⟩
end Go.PI
namespace Go.PI

def TV.places : TV → List Place
  | .ref p _ => [p]
  | .ptr p => [p]
  | .eref p => [p]
  | .tref t _ => [⟨false, t, []⟩]
  | .clos _ ps => ps
  | _ => []

section
variable {W0 : Base} {M : Nat → Prop} {σ : State} {a : Act} {w : World} {G : Ghost} {xs : List Nat}

theorem SlotRel.move {σ' : State} {a' : Act} {G' : Ghost} {tv : TV} {v : Value} {fp : List Nat}
    (hp : ∀ p ∈ tv.places, σ'.ct p = none ∨ (σ'.ct p = σ.ct p ∧ rootLoc G' a' w p = rootLoc G a w p))
    (hF : G'.F = G.F) (hS : G'.St = G.St) (hA : G'.Al = G.Al) (h : SlotRel σ G a w tv v fp) (hmir : ∀ r τ p, tv = .sptr r τ p → a'.tmps.getD r undef = a.tmps.getD r undef := by intros; rfl) : SlotRel σ' G' a' w tv v fp := by
  have hpt : ∀ p ∈ tv.places, ∀ v, PtrRel σ G a w p v → PtrRel σ' G' a' w p v := by
    intro p hm v h
    rcases hp p hm with h0 | ⟨h1, h2⟩
    · exact .inl h0
    · rcases h with h | ⟨cs, b, ⟨τ, l, b', h3, h4, h5⟩, h6⟩
      · exact .inl (h1.trans h)
      · exact .inr ⟨cs, b, ⟨τ, l, b', h1.trans h3, h2.trans h4, h5⟩, h6⟩
  cases tv with
  | dead => exact h
  | un => exact h
  | nil => exact h
  | val u => simp only [SlotRel] at h ⊢; rw [hF, hS, hA]; exact h
  | tup u ags => simp only [SlotRel] at h ⊢; rw [hF, hS, hA]; exact h
  | eptr u t => simp only [SlotRel] at h ⊢; rw [hF, hS, hA]; exact h
  | sclos f τs u => simp only [SlotRel] at h ⊢; rw [hF, hS, hA]; exact h
  | sptr r τr p => simp only [SlotRel] at h ⊢; rw [hF, hS, hmir r τr p rfl]; exact h
  | ptr p => exact ⟨h.1, h.2.1, h.2.2.1, hpt p (by simp [TV.places]) _ h.2.2.2⟩
  | eref p => exact ⟨h.1, hpt p (by simp [TV.places]) _ h.2⟩
  | tref t ags =>
    refine ⟨h.1, fun τ hτ => ?_⟩
    rcases hp ⟨false, t, []⟩ (by simp [TV.places]) with h0 | ⟨h1, h2⟩
    · rw [h0] at hτ; cases hτ
    · rw [h2]; exact h.2 τ (h1.symm.trans hτ)
  | clos f ps =>
    obtain ⟨h1, vs, h2, h3, h4⟩ := h
    exact ⟨h1, vs, h2, h3, fun i hi => ⟨(h4 i hi).1, (h4 i hi).2.1, hpt _ (by simp [TV.places]) _ (h4 i hi).2.2⟩⟩
  | ref p ag =>
    refine ⟨h.1, ?_⟩
    rcases hp p (by simp [TV.places]) with h0 | ⟨h1, h2⟩
    · exact .inl h0
    · rcases h.2 with h | ⟨cs, b, ⟨τ, l, b', h3, h4, h5⟩, h6⟩
      · exact .inl (h1.trans h)
      · exact .inr ⟨cs, b, ⟨τ, l, b', h1.trans h3, h2.trans h4, h5⟩, h6⟩

theorem Inv.sub (I : Inv W0 M σ a w G xs) {ys : List Nat} (h : ∀ b ∈ ys, b ∈ xs) (hn : ys.Nodup) : Inv W0 M σ a w G ys :=
  { I with whoX := fun b hb => I.whoX b (h b hb), nodX := hn }

theorem ct_slot (σ : State) (r : Nat) (path : List Step) : σ.ct ⟨false, r, path⟩ = match σ.slot r with | .val v => some v.τ | .tup v _ => some v.τ | _ => none := by
  unfold State.ct State.content
  simp only []
  cases σ.slot r <;> rfl
theorem ct_box (σ : State) (r : Nat) (path : List Step) : σ.ct ⟨true, r, path⟩ = (σ.boxAt r).map (·.τ) := rfl

theorem ct_loosen (σ : State) (b : Bool) (r : Nat) (p : Place) : (σ.loosen b r).ct p = σ.ct p := by
  obtain ⟨bx, r', path⟩ := p
  cases bx with
  | true => rfl
  | false =>
    rw [ct_slot, ct_slot, loosen_slot]
    cases σ.slot r' with
    | ref q ag => rcases TV.loosen_or b r (.ref q ag) with h | h <;> rw [h]
    | eref q => rcases TV.loosen_or b r (.eref q) with h | h <;> rw [h]
    | tref t ags => rcases TV.loosen_or b r (.tref t ags) with h | h <;> rw [h]
    | _ => rfl

theorem Inv.put {fp : List Nat} (I : Inv W0 M σ a w G (fp ++ xs)) {i : Nat} {tv : TV} {v : Value} (h : SlotRel σ G a w tv v fp) (hpin : i < W0.np → v = W0.arg i) (hmir : ((∀ τ p, tv ≠ .sptr i τ p) ∧ ∀ j τ p, σ.slot j ≠ .sptr i τ p) ∨ v = a.tmps.getD i undef) :
    ∃ G', Inv W0 M (σ.put i tv) (a.put (some i) v) w G' xs ∧ Sim G G' := by
  classical
  obtain ⟨fs1, I1, hfs⟩ := I.loosen false i
  have hslot : ∀ j, (σ.put i tv).slot j = if i = j ∧ i < σ.slots.length then tv else (σ.loosen false i).slot j := by
    intro j
    unfold State.put State.slot
    simp only []
    rw [getN_setN]
    simp [State.loosen]
  have hbox : ∀ j, (σ.put i tv).boxAt j = σ.boxAt j := fun j => rfl
  by_cases hi : i < σ.slots.length
  case neg =>
    refine ⟨{ G with fs := fs1 }, ?_, Sim.fs _ _⟩
    have e1 : σ.put i tv = σ.loosen false i := by
      unfold State.put
      rw [setN_ge _ _ _ (by simp [State.loosen]; omega)]
      rfl
    have e2 : a.put (some i) v = a := by
      have : a.tmps.size ≤ i := by rw [I.len]; omega
      simp only [Act.put]
      rw [Array.setIfInBounds_eq_of_size_le this]
    rw [e1, e2]
    exact I1.sub (fun b hb => List.mem_append_right _ hb) (List.nodup_append.1 I.nodX).2.1
  case pos =>
  have hti : ∀ j, (a.put (some i) v).tmps.getD j undef = if i = j then v else a.tmps.getD j undef := by
    intro j
    simp only [Act.put]
    by_cases hj : i = j
    · subst hj
      simp only [if_true]
      rw [Array.getD_eq_getD_getElem?, Array.getElem?_setIfInBounds_self_of_lt (by rw [I.len]; exact hi)]; rfl
    · simp only [hj, if_false]
      rw [Array.getD_eq_getD_getElem?, Array.getElem?_setIfInBounds_ne hj, ← Array.getD_eq_getD_getElem?]
  let G' : Ghost := { G with who := fun b => if b ∈ fp then some (.s i) else G.who b, fs := fun j => if j = i then fp else fs1 j }
  have hbx : ∀ b k, G'.who b = some (.a k) ↔ G.who b = some (.a k) := by
    intro b k
    show (if b ∈ fp then some (Who.s i) else G.who b) = some (.a k) ↔ _
    by_cases hb : b ∈ fp
    · have := I.whoX b (List.mem_append_left _ hb)
      rw [this]; simp [hb]
    · simp [hb]
  have hA : G'.Al = G.Al := by
    funext b
    apply propext
    show ((∀ k, (if b ∈ fp then some (Who.s i) else G.who b) ≠ some (.a k)) ∧ ((if b ∈ fp then some (Who.s i) else G.who b) = none → G.St b)) ↔ _
    by_cases hb : b ∈ fp
    · simp only [hb, if_true]
      have := I.whoX b (List.mem_append_left _ hb)
      constructor
      · intro _; exact ⟨fun k => (by rw [this]; simp), fun h => (by rw [this] at h; cases h)⟩
      · intro _; exact ⟨fun k => (by simp), fun h => (by cases h)⟩
    · simp only [hb, if_false]; rfl
  have hctb : ∀ p : Place, p.box = true → (σ.put i tv).ct p = σ.ct p ∧ rootLoc G' (a.put (some i) v) w p = rootLoc G a w p := by
    rintro ⟨bx, r, path⟩ hbx
    simp only at hbx
    subst hbx
    exact ⟨rfl, rfl⟩
  have hcts : ∀ p : Place, p.box = false → p.root ≠ i → (σ.put i tv).ct p = (σ.loosen false i).ct p ∧ rootLoc G' (a.put (some i) v) w p = rootLoc { G with fs := fs1 } a w p := by
    rintro ⟨bx, r, path⟩ hbx hr
    simp only at hbx hr
    subst hbx
    refine ⟨?_, ?_⟩
    · rw [ct_slot, ct_slot, hslot]
      simp [Ne.symm hr]
    · simp only [rootLoc]
      rw [hti]
      simp [Ne.symm hr]
  refine ⟨G', ⟨I.defers, ?_, fun j hj => ?_, fun j u hu => ?_, fun j b hb => ?_, fun j b hb => ?_, fun b hb => ?_, fun j => ?_, I.nodC, (List.nodup_append.1 I.nodX).2.1, fun b hb => ?_, fun b z hb => ?_, I.ext, fun j hj => I.adx j (by simpa [State.put, setN_length, State.loosen] using hj), ⟨I.org.F, I.org.St, I.org.St'⟩, fun j hj => ?_⟩, rfl, rfl, rfl, hA, hbx⟩
  · simp only [Act.put, Array.size_setIfInBounds, State.put, setN_length, State.loosen, List.length_map]; exact I.len
  · have hj' : j < σ.slots.length := by simpa [State.put, setN_length, State.loosen] using hj
    rw [hslot, hti]
    by_cases hij : i = j
    · subst hij
      simp only [hi, and_self, if_true]
      show SlotRel _ G' _ _ _ _ (if i = i then fp else fs1 i)
      simp only [if_true]
      refine SlotRel.move (G := G) (a := a) (σ := σ) (fun p hp => ?_) rfl rfl hA h (fun r τ p htv => by
        rw [hti]
        by_cases hir : i = r
        · subst hir
          rcases hmir with hm | hm
          · exact absurd htv (hm.1 τ p)
          · rw [if_pos rfl]; exact hm
        · rw [if_neg hir])
      cases hbx : p.box with
      | true => exact .inr (hctb p hbx)
      | false =>
        by_cases hr : p.root = i
        · left
          obtain ⟨bx, r, path⟩ := p
          simp only at hbx hr
          subst hbx hr
          rw [ct_slot, hslot]
          simp only [hi, and_self, if_true]
          cases tv <;> first | rfl | (simp [TV.places] at hp)
        · have := hcts p hbx hr
          obtain ⟨bx, r, path⟩ := p
          simp only at hbx hr
          subst hbx
          have hle := ct_loosen σ false i ⟨false, r, path⟩
          exact .inr ⟨this.1.trans hle, this.2⟩
    · simp only [hij, false_and, if_false]
      have hne : j ≠ i := fun h => hij h.symm
      have hs := I1.slot j (by simpa [State.loosen] using hj')
      show SlotRel _ G' _ _ _ _ (if j = i then fp else fs1 j)
      simp only [hne, if_false]
      refine SlotRel.move (G := { G with fs := fs1 }) (fun p hp => ?_) rfl rfl hA hs (fun r τ p htv => by
        rw [hti]
        by_cases hir : i = r
        · subst hir
          rcases hmir with hm | hm
          · have h3 := loosen_slot σ false i j
            rw [htv] at h3
            cases hsl : σ.slot j with
            | sptr r2 τ2 p2 =>
              rw [hsl] at h3
              simp only [TV.loosen, TV.sptr.injEq] at h3
              obtain ⟨rfl, rfl, rfl⟩ := h3
              exact absurd hsl (hm.2 j τ p)
            | ref q ag => rw [hsl] at h3; rcases TV.loosen_or false i (.ref q ag) with h4 | h4 <;> rw [h4] at h3 <;> cases h3
            | eref q => rw [hsl] at h3; rcases TV.loosen_or false i (.eref q) with h4 | h4 <;> rw [h4] at h3 <;> cases h3
            | tref t ags => rw [hsl] at h3; rcases TV.loosen_or false i (.tref t ags) with h4 | h4 <;> rw [h4] at h3 <;> cases h3
            | _ => rw [hsl] at h3; simp [TV.loosen] at h3
          · rw [if_pos rfl]; exact hm
        · rw [if_neg hir])
      cases hbx : p.box with
      | true => exact .inr ⟨(hctb p hbx).1.trans (by obtain ⟨bx, r, path⟩ := p; simp only at hbx; subst hbx; rfl), (hctb p hbx).2⟩
      | false =>
        have hr : p.root ≠ i := by
          intro hr
          rw [loosen_slot] at hp hs
          cases hsl : σ.slot j with
          | ref q ag =>
            rw [hsl] at hp
            simp only [TV.loosen] at hp
            split at hp
            · simp [TV.places] at hp
            · rename_i hc
              simp only [TV.places, List.mem_singleton] at hp
              subst hp
              exact hc (by simp [hbx, hr])
          | tref t' ags =>
            rw [hsl] at hp
            simp only [TV.loosen] at hp
            split at hp
            · simp [TV.places] at hp
            · rename_i hc
              simp only [TV.places, List.mem_singleton] at hp
              subst hp
              exact hc (by simp at hr; simp [hr])
          | eref q =>
            rw [hsl] at hp
            simp only [TV.loosen] at hp
            split at hp
            · simp [TV.places] at hp
            · rename_i hc
              simp only [TV.places, List.mem_singleton] at hp
              subst hp
              exact hc (by simp [hbx, hr])
          | ptr q =>
            rw [hsl] at hp hs
            simp only [TV.loosen, TV.places, List.mem_singleton] at hp
            subst hp
            have := hs.2.1
            rw [hbx] at this
            cases this
          | clos f ps =>
            rw [hsl] at hp hs
            simp only [TV.loosen, TV.places] at hp
            obtain ⟨_, vs, _, _, h4⟩ := hs
            obtain ⟨k, hk, rfl⟩ := List.mem_iff_getElem.1 hp
            have := (h4 k hk).1
            rw [hbx] at this
            cases this
          | _ => rw [hsl] at hp; simp [TV.loosen, TV.places] at hp
        exact .inr (hcts p hbx hr)
  · obtain ⟨⟨c, T, hc, hr⟩, hw⟩ := I.box j u hu
    refine ⟨⟨c, T, hc, ?_⟩, ?_⟩
    · rw [hA]; exact hr
    · show (if G.ad j ∈ fp then some (Who.s i) else G.who (G.ad j)) = _
      split
      · rename_i hm
        have := I.whoX _ (List.mem_append_left _ hm)
        rw [this] at hw
        cases hw
      · exact hw
  · show (if b ∈ fp then some (Who.s i) else G.who b) = _
    change b ∈ (if j = i then fp else fs1 j) at hb
    by_cases hji : j = i
    · subst hji
      simp only [if_true] at hb
      simp [hb]
    · simp only [hji, if_false] at hb
      have := I1.whoS j b hb
      split
      · rename_i hm
        have h2 := I.whoX b (List.mem_append_left _ hm)
        change G.who b = _ at this
        rw [h2] at this
        cases this
      · exact this
  · show (if b ∈ fp then some (Who.s i) else G.who b) = _
    have := I.whoC j b hb
    split
    · rename_i hm
      have h2 := I.whoX b (List.mem_append_left _ hm)
      rw [h2] at this
      cases this
    · exact this
  · show (if b ∈ fp then some (Who.s i) else G.who b) = _
    split
    · rename_i hm
      exact absurd rfl ((List.nodup_append.1 I.nodX).2.2 b hm b hb)
    · exact I.whoX b (List.mem_append_right _ hb)
  · show (if j = i then fp else fs1 j).Nodup
    split
    · exact (List.nodup_append.1 I.nodX).1
    · exact I1.nodS j
  · refine ⟨?_, (I.st b hb).2⟩
    show (if b ∈ fp then some (Who.s i) else G.who b) = _
    split
    · rename_i hm
      have := I.whoX b (List.mem_append_left _ hm)
      rw [(I.st b hb).1] at this
      cases this
    · exact (I.st b hb).1
  · change (if b ∈ fp then some (Who.s i) else G.who b) = some z at hb
    split at hb
    · rename_i hm
      exact I.lt b _ (I.whoX b (List.mem_append_left _ hm))
    · exact I.lt b z hb
  · rw [hti]
    split
    · rename_i hij
      subst hij
      exact hpin hj
    · exact I.pin j hj

theorem unmir_slot (σ : State) (i j : Nat) : (σ.unmir i).slot j = TV.unmir i (σ.slot j) := getN_map _ rfl _ _
theorem unmir_or (i : Nat) (tv : TV) : TV.unmir i tv = tv ∨ TV.unmir i tv = .dead := by
  cases tv <;> first | exact .inl rfl | skip
  simp only [TV.unmir]
  split
  · exact .inr rfl
  · exact .inl rfl
theorem unmir_no (i : Nat) (tv : TV) (τ : Ty) (p : List Step) : TV.unmir i tv ≠ .sptr i τ p := by
  cases tv <;> simp only [TV.unmir] <;> first | (intro h; cases h; done) | skip
  rename_i r τ' p'
  split
  · intro h; cases h
  · rename_i hc
    intro h
    cases h
    simp at hc

theorem SlotRel.unmired {i : Nat} {tv : TV} {v : Value} {fp : List Nat} (h : SlotRel σ G a w tv v fp) : SlotRel (σ.unmir i) G a w tv v fp := by
  refine SlotRel.move (fun p _ => .inr ⟨?_, rfl⟩) rfl rfl rfl h
  obtain ⟨bx, r, path⟩ := p
  cases bx with
  | true => rfl
  | false =>
    rw [ct_slot, ct_slot, unmir_slot]
    cases hs : σ.slot r with
    | sptr r2 τ2 p2 => rcases unmir_or i (.sptr r2 τ2 p2) with h4 | h4 <;> rw [h4]
    | _ => rfl

theorem Inv.puto {fp : List Nat} (I : Inv W0 M σ a w G (fp ++ xs)) {d : Option Nat} {tv : TV} {v : Value} (h : SlotRel σ G a w tv v fp) (hpin : ∀ i, d = some i → i < W0.np → v = W0.arg i) :
    ∃ G', Inv W0 M (σ.puto d tv) (a.put d v) w G' xs ∧ Sim G G' := by
  cases d with
  | none => exact ⟨G, I.sub (fun b hb => List.mem_append_right _ hb) (List.nodup_append.1 I.nodX).2.1, Sim.refl _⟩
  | some i =>
    obtain ⟨fs1, I1, hfs⟩ := I.drop (σ' := σ.unmir i) (by simp [State.unmir]) (fun j => by rw [unmir_slot]; exact unmir_or _ _) (fun j => .inl rfl)
    have h2 : SlotRel (σ.unmir i) { G with fs := fs1 } a w (TV.unmir i tv) v fp := by
      have h3 : SlotRel (σ.unmir i) { G with fs := fs1 } a w tv v fp := SlotRel.move (fun p _ => .inr ⟨rfl, rfl⟩) rfl rfl rfl h.unmired
      cases tv <;> first | exact h3 | skip
      simp only [TV.unmir]
      split
      · exact h3.1
      · exact h3
    obtain ⟨G2, I2, hs2⟩ := I1.put (i := i) (tv := TV.unmir i tv) (v := v) h2 (hpin _ rfl) (.inl ⟨fun τ p => unmir_no _ _ _ _, fun j τ p => by rw [unmir_slot]; exact unmir_no _ _ _ _⟩)
    exact ⟨G2, I2, (Sim.fs G fs1).trans hs2⟩
end

section
variable {w : World} {F : Nat → Nat} {St Al : Nat → Prop}

theorem Rp.flatLens : {path : List Step} → {τ : Ty} → {tg : List Tag} → {cs cs' : List Value} → {x : El τ} → {fp : List Nat} → {base base' : Option (Nat × Nat)} → {u : TVal} →
    flatB path = true → Rp w F St Al τ tg cs x fp → locP w τ cs base path = some (cs', base') → getP τ x tg path = some u →
    ∃ f1 fi f2, fp = f1 ++ fi ++ f2 ∧ Rp w F St Al u.τ u.tg (cs'.take (size u.τ)) u.x fi ∧ base' = base.map (fun y => (y.1, y.2 + offP τ path)) ∧ cs'.take (size u.τ) = (cs.drop (offP τ path)).take (size u.τ) ∧
      ∀ (v : TVal) (csv : List Value) (fv : List Nat) (x' : El τ) (tg' : List Tag), setP τ x tg path v = some (x', tg') → v.τ = u.τ → Rp w F St Al v.τ v.tg csv v.x fv →
        Rp w F St Al τ tg' (splice cs (offP τ path) csv) x' (f1 ++ fv ++ f2)
  | [], τ, tg, cs, cs', x, fp, base, base', u, hf, h, hl, hg => by
    simp only [locP, Option.some.injEq, Prod.mk.injEq] at hl
    obtain ⟨rfl, rfl⟩ := hl
    have hu : u = ⟨τ, false, x, tg⟩ := by cases τ <;> (simp only [getP, Option.some.injEq] at hg; exact hg.symm)
    subst hu
    have h0 : offP τ [] = 0 := by cases τ <;> rfl
    have hsz : cs.take (size τ) = cs := by rw [← h.len.1]; simp
    refine ⟨[], fp, [], by simp, by rw [hsz]; exact h, ?_, by rw [h0]; simp, ?_⟩
    · rw [h0]; cases base <;> simp
    · intro v csv fv x' tg' hs hv hvr
      obtain ⟨vτ, vag, vx, vtg⟩ := v
      simp only at hv hvr
      subst hv
      have hs' : vx = x' ∧ vtg = tg' := by
        cases vτ <;> (simp only [setP, dif_pos, Option.some.injEq, Prod.mk.injEq] at hs; first | exact hs | exact ⟨rfl, hs.2⟩)
      obtain ⟨rfl, rfl⟩ := hs'
      rw [h0, splice_nil_all (by rw [hvr.len.1, h.len.1])]
      simpa using hvr
  | .fst :: p, .pair a b, tg, cs, cs', x, fp, base, base', u, hf, h, hl, hg => by
    obtain ⟨t1, t2, c1, c2, f1, f2, rfl, rfl, rfl, h1, h2⟩ := h
    have i1 := h1.len
    have hl' : locP w a c1 base p = some (cs', base') := by
      simp only [locP] at hl; rw [← i1.1] at hl; simpa using hl
    have hg' : getP a x.1 t1 p = some u := by
      simp only [getP] at hg; rw [← i1.2] at hg; simpa using hg
    have hsz := getP_size (path := p) hf hg'
    obtain ⟨g1, gi, g2, e1, e2, e3, e4, e5⟩ := Rp.flatLens (path := p) hf h1 hl' hg'
    refine ⟨g1, gi, g2 ++ f2, by rw [e1]; simp, e2, e3, ?_, ?_⟩
    · rw [e4, show offP (a.pair b) (.fst :: p) = offP a p from rfl]
      rw [List.drop_append_of_le_length (by omega), List.take_append_of_le_length (by simp; omega)]
    · intro v csv fv x' tg' hs hv hvr
      simp only [setP] at hs
      rw [← i1.2] at hs
      simp only [List.take_left', List.drop_left', Option.map_eq_some_iff] at hs
      obtain ⟨⟨xa, ta⟩, hs1, hs2⟩ := hs
      simp only [Prod.mk.injEq] at hs2
      obtain ⟨rfl, rfl⟩ := hs2
      have := e5 v csv fv xa ta hs1 hv hvr
      rw [show offP (a.pair b) (.fst :: p) = offP a p from rfl, splice_append_left (by rw [hvr.len.1, hv, i1.1]; omega)]
      have := Rp.pair_mk this h2
      simpa using this
  | .snd :: p, .pair a b, tg, cs, cs', x, fp, base, base', u, hf, h, hl, hg => by
    obtain ⟨t1, t2, c1, c2, f1, f2, rfl, rfl, rfl, h1, h2⟩ := h
    have i1 := h1.len
    have hl' : locP w b c2 (base.map fun x => (x.1, x.2 + size a)) p = some (cs', base') := by
      simp only [locP] at hl; rw [← i1.1] at hl ⊢; simpa using hl
    have hg' : getP b x.2 t2 p = some u := by
      simp only [getP] at hg; rw [← i1.2] at hg; simpa using hg
    obtain ⟨g1, gi, g2, e1, e2, e3, e4, e5⟩ := Rp.flatLens (path := p) hf h2 hl' hg'
    refine ⟨f1 ++ g1, gi, g2, by rw [e1]; simp, e2, ?_, ?_, ?_⟩
    · rw [e3]
      cases base with
      | none => rfl
      | some z => simp [offP, Nat.add_assoc]
    · rw [e4, show offP (a.pair b) (.snd :: p) = size a + offP b p from rfl, ← i1.1, List.drop_length_add_append]
    · intro v csv fv x' tg' hs hv hvr
      simp only [setP] at hs
      rw [← i1.2] at hs
      simp only [List.take_left', List.drop_left', Option.map_eq_some_iff] at hs
      obtain ⟨⟨xa, ta⟩, hs1, hs2⟩ := hs
      simp only [Prod.mk.injEq] at hs2
      obtain ⟨rfl, rfl⟩ := hs2
      have := e5 v csv fv xa ta hs1 hv hvr
      rw [show offP (a.pair b) (.snd :: p) = size a + offP b p from rfl, ← i1.1, splice_append_right]
      have := Rp.pair_mk h1 this
      simpa using this
  | .idx _ :: _, _, _, _, _, _, _, _, _, _, hf, _, _, _ => by simp [flatB] at hf
  | .fst :: _, .int _, _, _, _, _, _, _, _, _, _, _, hl, _ => by simp [locP] at hl
  | .fst :: _, .bool, _, _, _, _, _, _, _, _, _, _, hl, _ => by simp [locP] at hl
  | .fst :: _, .str, _, _, _, _, _, _, _, _, _, _, hl, _ => by simp [locP] at hl
  | .fst :: _, .unit, _, _, _, _, _, _, _, _, _, _, hl, _ => by simp [locP] at hl
  | .fst :: _, .slice _, _, _, _, _, _, _, _, _, _, _, hl, _ => by simp [locP] at hl
  | .snd :: _, .int _, _, _, _, _, _, _, _, _, _, _, hl, _ => by simp [locP] at hl
  | .snd :: _, .bool, _, _, _, _, _, _, _, _, _, _, hl, _ => by simp [locP] at hl
  | .snd :: _, .str, _, _, _, _, _, _, _, _, _, _, hl, _ => by simp [locP] at hl
  | .snd :: _, .unit, _, _, _, _, _, _, _, _, _, _, hl, _ => by simp [locP] at hl
  | .snd :: _, .slice _, _, _, _, _, _, _, _, _, _, _, hl, _ => by simp [locP] at hl
end
end Go.PI
namespace Go.PI
section
variable {W0 : Base} {M : Nat → Prop} {σ : State} {a : Act} {w : World} {G : Ghost} {xs : List Nat}

def Ghost.fpOf (G : Ghost) (p : Place) : List Nat := match p.box with | true => G.fb p.root | false => G.fs p.root

theorem locP_nil (w : World) (τ : Ty) (cs : List Value) (base : Option (Nat × Nat)) : locP w τ cs base [] = some (cs, base) := by cases τ <;> rfl

theorem splice_self {cs : List Value} {o n : Nat} (h : o + n ≤ cs.length) : splice cs o ((cs.drop o).take n) = cs := by
  unfold splice
  have : ((cs.drop o).take n).length = n := by simp; omega
  rw [this, List.append_assoc, ← List.drop_drop, List.take_append_drop, List.take_append_drop]

theorem setContent_slot {r : Nat} {path : List Step} {c c' : TVal} (hc : σ.content ⟨false, r, path⟩ = some c) (j : Nat) :
    (σ.setContent ⟨false, r, path⟩ c').slot j = if r = j ∧ r < σ.slots.length then (match σ.slot r with | .tup _ ags => .tup c' ags | _ => .val c') else σ.slot j := by
  simp only [State.content] at hc
  cases hsl : σ.slot r with
  | val v =>
    have : σ.setContent ⟨false, r, path⟩ c' = { σ with slots := setN σ.slots r (.val c') } := by simp only [State.setContent, hsl]
    rw [this]
    show getN TV.dead (setN σ.slots r (.val c')) j = _
    rw [getN_setN]; rfl
  | tup v ags =>
    have : σ.setContent ⟨false, r, path⟩ c' = { σ with slots := setN σ.slots r (.tup c' ags) } := by simp only [State.setContent, hsl]
    rw [this]
    show getN TV.dead (setN σ.slots r (.tup c' ags)) j = _
    rw [getN_setN]; rfl
  | _ => rw [hsl] at hc; cases hc

theorem setContent_len (p : Place) (c' : TVal) : (σ.setContent p c').slots.length = σ.slots.length := by
  obtain ⟨bx, r, path⟩ := p
  cases bx with
  | true => rfl
  | false => simp only [State.setContent]; split <;> simp [setN_length]

theorem Inv.recontent (I : Inv W0 M σ a w G xs) {p : Place} {c c' : TVal} (hc : σ.content p = some c) (hτ : c'.τ = c.τ) (hag : c'.ag = c.ag) {l : List Value} {b : Option (Nat × Nat)} {f' fi : List Nat}
    (hr : rootLoc G a w p = some (l, b)) (hR : Rp w G.F G.St G.Al c'.τ c'.tg l c'.x f') (hfp : (G.fpOf p).Perm (f' ++ fi)) :
    ∃ G', Inv W0 M (σ.setContent p c') a w G' (fi ++ xs) ∧ Sim G G' := by
  classical
  obtain ⟨bx, r, path⟩ := p
  have hfi : ∀ x ∈ fi, x ∈ G.fpOf ⟨bx, r, path⟩ := fun x hx => hfp.symm.subset (List.mem_append_right _ hx)
  have hf' : ∀ x ∈ f', x ∈ G.fpOf ⟨bx, r, path⟩ := fun x hx => hfp.symm.subset (List.mem_append_left _ hx)
  have hwf : ∀ x ∈ G.fpOf ⟨bx, r, path⟩, G.who x = some (if bx then .c r else .s r) := by
    intro x hx
    cases bx
    · exact I.whoS r x hx
    · exact I.whoC r x hx
  have hnd : (f' ++ fi).Nodup := by
    refine hfp.nodup_iff.1 ?_
    cases bx
    · exact I.nodS r
    · exact I.nodC r
  have hdis : ∀ x ∈ fi, x ∉ f' := fun x hx hx' => (List.nodup_append.1 hnd).2.2 x hx' x hx rfl
  let G' : Ghost := ⟨G.F, G.St, (fun x => if x ∈ fi then some .x else G.who x), (fun j => if bx = false ∧ j = r then f' else G.fs j), (fun j => if bx = true ∧ j = r then f' else G.fb j), G.ad⟩
  have hbx : ∀ x k, G'.who x = some (.a k) ↔ G.who x = some (.a k) := by
    intro x k
    show (if x ∈ fi then some Who.x else G.who x) = some (.a k) ↔ _
    by_cases hx : x ∈ fi
    · have := hwf x (hfi x hx)
      rw [this]; cases bx <;> simp [hx]
    · simp [hx]
  have hA : G'.Al = G.Al := by
    funext x
    apply propext
    show ((∀ k, (if x ∈ fi then some Who.x else G.who x) ≠ some (.a k)) ∧ ((if x ∈ fi then some Who.x else G.who x) = none → G.St x)) ↔ _
    by_cases hx : x ∈ fi
    · simp only [hx, if_true]
      have := hwf x (hfi x hx)
      constructor
      · intro _; exact ⟨fun k => (by rw [this]; cases bx <;> simp), fun h => (by rw [this] at h; cases h)⟩
      · intro _; exact ⟨fun k => (by simp), fun h => (by cases h)⟩
    · simp only [hx, if_false]; rfl
  have hct : ∀ q, (σ.setContent ⟨bx, r, path⟩ c').ct q = σ.ct q ∧ rootLoc G' a w q = rootLoc G a w q := by
    rintro ⟨bq, rq, pq⟩
    refine ⟨?_, by cases bq <;> rfl⟩
    cases bx with
    | true =>
      simp only [State.content] at hc
      cases bq with
      | true =>
        rw [ct_box, ct_box]
        simp only [State.setContent, State.boxAt] at *
        rw [getN_setN]
        split
        · rename_i h; obtain ⟨rfl, _⟩ := h
          rw [hc]; simp [hτ]
        · rfl
      | false => rfl
    | false =>
      cases bq with
      | true =>
        simp only [State.setContent]
        split <;> rfl
      | false =>
        rw [ct_slot, ct_slot, setContent_slot hc]
        by_cases h3 : r = rq ∧ r < σ.slots.length
        · obtain ⟨rfl, h4⟩ := h3
          simp only [h4, and_self, if_true]
          simp only [State.content] at hc
          cases hsl : σ.slot r with
          | val v => rw [hsl] at hc; cases hc; simp only [hτ]
          | tup v ags => rw [hsl] at hc; cases hc; simp only [hτ]
          | _ => rw [hsl] at hc; cases hc
        · simp only [h3, if_false]
  refine ⟨G', ⟨I.defers, ?_, fun j hj => ?_, fun j u hu => ?_, fun j x hx => ?_, fun j x hx => ?_, fun x hx => ?_, fun j => ?_, fun j => ?_, ?_, fun x hx => ?_, fun x z hx => ?_, I.ext, fun j hj => I.adx j (by rw [setContent_len] at hj; exact hj), ⟨I.org.F, I.org.St, I.org.St'⟩, I.pin⟩, rfl, rfl, rfl, hA, hbx⟩
  · rw [I.len, setContent_len]
  · have hj' : j < σ.slots.length := by rw [setContent_len] at hj; exact hj
    by_cases hjr : bx = false ∧ j = r
    · obtain ⟨rfl, rfl⟩ := hjr
      show SlotRel _ G' a w _ _ (if false = false ∧ j = j then f' else G.fs j)
      simp only [and_self, if_true]
      have hs := I.slot j hj'
      have key := setContent_slot (c' := c') hc j
      simp only [State.content] at hc
      simp only [rootLoc, Option.some.injEq, Prod.mk.injEq] at hr
      obtain ⟨rfl, rfl⟩ := hr
      simp only [hj', and_self, if_true] at key
      rw [key]
      cases hsl : σ.slot j with
      | val v =>
        rw [hsl] at hs hc
        cases hc
        simp only []
        refine ⟨by rw [hag]; exact hs.1, ?_⟩
        rw [hA]; exact hR
      | tup v ags =>
        rw [hsl] at hs hc
        cases hc
        simp only []
        refine ⟨by rw [hτ]; exact hs.1, ?_⟩
        rw [hA]; exact hR
      | _ => rw [hsl] at hc; cases hc
    · show SlotRel _ G' a w _ _ (if bx = false ∧ j = r then f' else G.fs j)
      simp only [hjr, if_false]
      have key : (σ.setContent ⟨bx, r, path⟩ c').slot j = σ.slot j := by
        cases bx with
        | true => rfl
        | false =>
          have hjr' : r ≠ j := fun h => hjr ⟨rfl, h.symm⟩
          rw [setContent_slot hc]; simp [hjr']
      rw [key]
      exact SlotRel.move (fun q _ => .inr (hct q)) rfl rfl hA (I.slot j hj')
  · have key : ∀ j, (σ.setContent ⟨bx, r, path⟩ c').boxAt j = if bx = true ∧ r = j ∧ r < σ.boxes.length then some c' else σ.boxAt j := by
      intro j
      cases bx with
      | true => simp only [State.setContent, State.boxAt]; rw [getN_setN]; simp
      | false => simp only [State.setContent]; split <;> simp [State.boxAt]
    rw [key] at hu
    split at hu
    · rename_i h
      obtain ⟨rfl, rfl, _⟩ := h
      cases hu
      simp only [State.content] at hc
      obtain ⟨⟨cc, T, hcc, hrr⟩, hw⟩ := I.box r c hc
      simp only [rootLoc, hcc, Option.some.injEq, Prod.mk.injEq] at hr
      obtain ⟨rfl, rfl⟩ := hr
      refine ⟨⟨cc, T, hcc, ?_⟩, ?_⟩
      · rw [hA]
        show Rp w G.F G.St G.Al _ _ _ _ (if true = true ∧ r = r then f' else G.fb r)
        simp only [and_self, if_true]; exact hR
      · show (if G.ad r ∈ fi then some Who.x else G.who (G.ad r)) = _
        split
        · rename_i hm
          have := hwf _ (hfi _ hm)
          rw [hw] at this; simp at this
        · exact hw
    · obtain ⟨⟨cc, T, hcc, hrr⟩, hw⟩ := I.box j u hu
      refine ⟨⟨cc, T, hcc, ?_⟩, ?_⟩
      · rw [hA]
        show Rp w G.F G.St G.Al _ _ _ _ (if bx = true ∧ j = r then f' else G.fb j)
        split
        · rename_i h1 h2
          obtain ⟨rfl, rfl⟩ := h2
          exfalso
          refine h1 ⟨rfl, rfl, ?_⟩
          rcases Nat.lt_or_ge j σ.boxes.length with h | h
          · exact h
          · unfold State.boxAt at hu; rw [getN_ge _ _ h] at hu; cases hu
        · exact hrr
      · show (if G.ad j ∈ fi then some Who.x else G.who (G.ad j)) = _
        split
        · rename_i hm
          have := hwf _ (hfi _ hm)
          rw [hw] at this; cases bx <;> simp at this
        · exact hw
  · change x ∈ (if bx = false ∧ j = r then f' else G.fs j) at hx
    show (if x ∈ fi then some Who.x else G.who x) = _
    split at hx
    · rename_i h; obtain ⟨rfl, rfl⟩ := h
      rw [if_neg (fun h => hdis x h hx)]
      have := hwf x (hf' x hx); simpa using this
    · rename_i h
      have h1 := I.whoS j x hx
      rw [if_neg (fun hm => ?_)]
      · exact h1
      · have := hwf x (hfi x hm)
        rw [h1] at this
        cases bx
        · simp only [Bool.false_eq_true, if_false, Option.some.injEq, Who.s.injEq] at this
          exact h ⟨rfl, this⟩
        · simp at this
  · change x ∈ (if bx = true ∧ j = r then f' else G.fb j) at hx
    show (if x ∈ fi then some Who.x else G.who x) = _
    split at hx
    · rename_i h; obtain ⟨rfl, rfl⟩ := h
      rw [if_neg (fun h => hdis x h hx)]
      have := hwf x (hf' x hx); simpa using this
    · rename_i h
      have h1 := I.whoC j x hx
      rw [if_neg (fun hm => ?_)]
      · exact h1
      · have := hwf x (hfi x hm)
        rw [h1] at this
        cases bx
        · simp at this
        · simp only [if_true, Option.some.injEq, Who.c.injEq] at this
          exact h ⟨rfl, this⟩
  · show (if x ∈ fi then some Who.x else G.who x) = _
    split
    · rfl
    · rename_i h
      exact I.whoX x ((List.mem_append.1 hx).resolve_left h)
  · show (if bx = false ∧ j = r then f' else G.fs j).Nodup
    split
    · exact (List.nodup_append.1 hnd).1
    · exact I.nodS j
  · show (if bx = true ∧ j = r then f' else G.fb j).Nodup
    split
    · exact (List.nodup_append.1 hnd).1
    · exact I.nodC j
  · refine List.nodup_append.2 ⟨(List.nodup_append.1 hnd).2.1, I.nodX, fun x hx y hy he => ?_⟩
    subst he
    have h1 := hwf x (hfi x hx)
    rw [I.whoX x hy] at h1
    cases bx <;> simp at h1
  · refine ⟨?_, (I.st x hx).2⟩
    show (if x ∈ fi then some Who.x else G.who x) = _
    split
    · rename_i hm
      have := hwf x (hfi x hm)
      rw [(I.st x hx).1] at this; cases this
    · exact (I.st x hx).1
  · change (if x ∈ fi then some Who.x else G.who x) = some z at hx
    split at hx
    · rename_i hm
      exact I.lt x _ (hwf x (hfi x hm))
    · exact I.lt x z hx

theorem peek_rel (I : Inv W0 M σ a w G xs) (o : Operand) (h : ∀ v ags, σ.peek o ≠ .tup v ags) : SlotRel σ G a w (σ.peek o) (a.eval o) [] := by
  cases o with
  | tmp t =>
    by_cases ht : t < σ.slots.length
    · have hs := I.slot t ht
      simp only [State.peek] at h ⊢
      cases hsl : σ.slot t with
      | val v =>
        rw [hsl] at hs
        simp only []
        by_cases ho : v.anyOwn
        · simp only [ho, if_true]
          refine ⟨rfl, .inr ⟨vCells (a.tmps.getD t undef), none, ⟨v.τ, vCells (a.tmps.getD t undef), none, ?_, rfl, locP_nil _ _ _ _⟩, rfl, hs.1⟩⟩
          rw [ct_slot, hsl]
        · simp only [ho, if_false]
          have : G.fs t = [] := hs.2.fp_nil fun t ht => by
            unfold TVal.anyOwn at ho
            cases hx : t.own with
            | false => rfl
            | true => exact absurd (List.any_eq_true.2 ⟨t, ht, hx⟩) ho
          rw [this] at hs
          exact hs
      | tup v ags => rw [hsl] at h; exact absurd rfl (h v ags)
      | dead => simp only [SlotRel]
      | un => rw [hsl] at hs; exact ⟨hs.1, rfl⟩
      | nil => rw [hsl] at hs; exact ⟨hs.1, rfl⟩
      | ref p ag => rw [hsl] at hs; exact ⟨rfl, hs.2⟩
      | ptr p => rw [hsl] at hs; exact ⟨rfl, hs.2⟩
      | eptr u t => rw [hsl] at hs; exact ⟨rfl, hs.2⟩
      | eref p => rw [hsl] at hs; exact ⟨rfl, hs.2⟩
      | tref t' ags => rw [hsl] at hs; exact ⟨rfl, hs.2⟩
      | sptr r τr p => rw [hsl] at hs; exact ⟨rfl, hs.2⟩
      | clos f ps => rw [hsl] at hs; exact ⟨rfl, hs.2⟩
      | sclos f τs u => rw [hsl] at hs; exact ⟨rfl, hs.2⟩
    · have : σ.slot t = .dead := getN_ge _ _ (Nat.le_of_not_lt ht)
      simp only [State.peek, this, SlotRel]
  | const v =>
    cases v with
    | int k n => exact ⟨rfl, rfl, rfl, rfl⟩
    | bool b => exact ⟨rfl, rfl, rfl, rfl⟩
    | string s => exact ⟨rfl, rfl, rfl, rfl⟩
    | slice ad len cap =>
      cases ad with
      | none =>
        cases len with
        | zero => cases cap with
          | zero => exact ⟨rfl, rfl⟩
          | succ n => simp [State.peek, SlotRel]
        | succ n => simp [State.peek, SlotRel]
      | some x => simp [State.peek, SlotRel]
    | _ => simp [State.peek, SlotRel]
  | func f => exact ⟨rfl, #[], rfl, rfl, fun i hi => by simp at hi⟩
  | _ => simp [State.peek, SlotRel]

theorem getAt_content {p : Place} {u : TVal} (h : σ.getAt p = some u) : ∃ c, σ.content p = some c ∧ getP c.τ c.x c.tg p.path = some u := by
  unfold State.getAt at h
  obtain ⟨c, h1, h2⟩ := Option.bind_eq_some_iff.1 h
  exact ⟨c, h1, h2⟩

theorem place_rp (I : Inv W0 M σ a w G xs) {p : Place} {u : TVal} {cs : List Value} {base : Option (Nat × Nat)} (h : σ.getAt p = some u) (hp : PlaceAt σ G a w p cs base) :
    ∃ fp, Rp w G.F G.St G.Al u.τ u.tg cs u.x fp := by
  obtain ⟨c, hc, hg⟩ := getAt_content h
  obtain ⟨τ, l, b, hct, hr, hl⟩ := hp
  obtain ⟨l', b', fp, hr', hrp, hw⟩ := content_root I hc
  rw [hr] at hr'
  cases hr'
  have : τ = c.τ := by rw [State.ct, hc] at hct; simpa using hct.symm
  subst this
  obtain ⟨fp', h1, _⟩ := hrp.get hl hg
  exact ⟨fp', h1⟩

theorem TVal.alias_tg (u : TVal) : u.alias.tg = u.tg.map Tag.alias := rfl

theorem look_rel (I : Inv W0 M σ a w G xs) {o : Operand} {v : TVal} (h : σ.look o = some v) :
    Rp w G.F G.St G.Al v.τ v.tg (vCells (a.eval o)) v.x [] ∧ Shaped v.ag (a.eval o) := by
  unfold State.look at h
  have hp := peek_rel I o
  split at h
  · rename_i u hu
    cases h
    rw [hu] at hp
    have := hp (by simp)
    exact ⟨this.2, this.1⟩
  · rename_i p ag hu
    rw [hu] at hp
    obtain ⟨_, hr⟩ := hp (by simp)
    obtain ⟨u, hg, rfl⟩ := Option.map_eq_some_iff.1 h
    rcases hr with hr | ⟨cs, base, hpl, hcs, hsh⟩
    · obtain ⟨c, hc, _⟩ := getAt_content hg
      rw [State.ct, hc] at hr; cases hr
    · obtain ⟨fp, hrp⟩ := place_rp I hg hpl
      rw [hcs]
      exact ⟨hrp.alias (Ghost.St_Al I), hsh⟩
  · cases h

theorem take_rel (I : Inv W0 M σ a w G xs) {o : Operand} {τ : Ty} {v : TVal} {σ' : State} (h : σ.take o τ = some (v, σ')) :
    ∃ fp G', Inv W0 M σ' a w G' (fp ++ xs) ∧ Sim G G' ∧ v.τ = τ ∧
      Rp w G'.F G'.St G'.Al v.τ v.tg (vCells (a.eval o)) v.x fp ∧ Shaped v.ag (a.eval o) := by
  unfold State.take at h
  have hp := peek_rel I o
  split at h
  · rename_i hu
    rw [hu] at hp
    obtain ⟨hv, _⟩ := hp (by simp)
    split at h
    · cases h
      refine ⟨[], G, I, Sim.refl _, rfl, ?_, ?_⟩
      · rw [hv]
        exact ⟨.O, none, 0, rfl, rfl, Nat.le_refl _, .inl ⟨rfl, rfl, rfl, rfl, rfl⟩⟩
      · rw [hv]; rfl
    · cases h
  · rename_i u hu
    rw [hu] at hp
    have := hp (by simp)
    split at h
    · cases h
      rename_i hτ
      exact ⟨[], G, I, Sim.refl _, hτ, this.2, this.1⟩
    · cases h
  · rename_i p ag hu
    rw [hu] at hp
    obtain ⟨_, hr⟩ := hp (by simp)
    split at h
    · rename_i u hg
      split at h
      · rename_i hτ
        rcases hr with hr | ⟨cs, base, hpl, hcs, hsh⟩
        · obtain ⟨c, hc, _⟩ := getAt_content hg
          rw [State.ct, hc] at hr; cases hr
        split at h
        · rename_i hcond
          simp only [Bool.and_eq_true] at hcond
          obtain ⟨σ2, hset, he⟩ := Option.map_eq_some_iff.1 h
          cases he
          obtain ⟨c, hc, hgp⟩ := getAt_content hg
          unfold State.setAt at hset
          rw [hc] at hset
          simp only [Option.bind_some, Option.map_eq_some_iff] at hset
          obtain ⟨⟨x', tg'⟩, hsp, rfl⟩ := hset
          obtain ⟨τc, l, b, hct, hrl, hl⟩ := hpl
          obtain ⟨l', b', fpc, hr', hrp, hw⟩ := content_root I hc
          rw [hrl] at hr'
          cases hr'
          have : τc = c.τ := by rw [State.ct, hc] at hct; simpa using hct.symm
          subst this
          obtain ⟨f1, fi, f2, e1, e2, e3, e4, e5⟩ := Rp.flatLens hcond.2 hrp hl hgp
          obtain ⟨fg, hrg, _⟩ := hrp.get hl hgp
          have hlen : cs.take (size u.τ) = cs := by rw [← hrg.len.1]; simp
          have hnew := e5 u.alias (cs.take (size u.τ)) [] x' tg' hsp rfl (by rw [hlen]; exact hrg.alias (Ghost.St_Al I))
          have hsz := getP_size hcond.2 hgp
          rw [e4, splice_self (by rw [hrp.len.1]; exact hsz)] at hnew
          have hfp : G.fpOf p = f1 ++ fi ++ f2 := by
            rw [← e1]
            rcases hw with ⟨hb, _, rfl, _⟩ | ⟨hb, _, rfl, _⟩ <;> simp [Ghost.fpOf, hb]
          obtain ⟨G', I', hsim⟩ := I.recontent (c' := ⟨c.τ, c.ag, x', tg'⟩) hc rfl rfl hrl hnew (fi := fi) (by
            rw [hfp]
            simp only [List.append_nil]
            rw [List.append_assoc, List.append_assoc]
            exact List.Perm.append_left _ List.perm_append_comm)
          refine ⟨fi, G', I', hsim, hτ, ?_, hsh⟩
          rw [hsim.F, hsim.St, hsim.Al, hcs]
          rw [hlen] at e2
          exact e2
        · cases h
          obtain ⟨fp, hrp⟩ := place_rp I hg hpl
          refine ⟨[], G, I, Sim.refl _, hτ, ?_, hsh⟩
          rw [hcs]
          exact hrp.alias (Ghost.St_Al I)
      · cases h
    · cases h
  · cases h
end
end Go.PI
namespace Go.PI

def zeroCells : Ty → List Value
  | .int k => [.int k 0]
  | .bool => [.bool false]
  | .str => [.string ⟨#[]⟩]
  | .unit => []
  | .slice _ => [.slice none 0 0]
  | .pair a b => zeroCells a ++ zeroCells b

structure FieldF (P : Program) (tys : List (TypeId × Ty × List TypeId)) (τ : Ty) (l : List TypeId) (fs : Array Field) (i : Nat) : Prop where
  out : ∃ f τf lf, fs[i]? = some f ∧ f.type = l.getD i 0 ∧ f.offset = offP τ (fieldPath l.length i) ∧ tyAt τ (fieldPath l.length i) = some τf ∧ assoc tys f.type = some (τf, lf) ∧ size τf ≠ 0 ∧ f.name ≠ "_"

def plainB : Ty → Bool
  | .int _ => true
  | .bool => true
  | .str => true
  | _ => false

structure TyF (P : Program) (tys : List (TypeId × Ty × List TypeId)) (t : TypeId) (τ : Ty) (l : List TypeId) : Prop where
  info : ∃ i z, P.info? t = some i ∧ i.size = size τ ∧ i.bytes ≤ 65536 ∧ i.bytes ≠ 0 ∧ i.zero = some z ∧ z.cells.toList = zeroCells τ ∧ Shaped (!l.isEmpty) z
  und : l = [] → ((∀ k, τ = .int k → P.underlying t = some (.int k)) ∧ (τ = .bool → P.underlying t = some .bool) ∧ (τ = .str → P.underlying t = some .string) ∧
    (∀ e, τ = .slice e → ∃ et, P.underlying t = some (.slice et) ∧ tyOf tys et = some e ∧ (plainB e = true → agOf tys et = false)) ∧ (τ ≠ .unit) ∧ (∀ a b, τ ≠ .pair a b))
  str : l ≠ [] → ∃ fs, P.underlying t = some (.struct fs) ∧ fs.size = l.length ∧ (∀ i, i < l.length → FieldF P tys τ l fs i) ∧ P.stoodInHeld t = false

def TysOk (P : Program) (tys : List (TypeId × Ty × List TypeId)) : Prop := ∀ t τ l, assoc tys t = some (τ, l) → TyF P tys t τ l


def zeroB : Ty → List Value → Bool
  | .int k, cs => match cs with | [.int k' n] => decide (k = k') && decide (n = 0) | _ => false
  | .bool, cs => match cs with | [.bool b] => !b | _ => false
  | .str, cs => match cs with | [.string s] => decide (s.size = 0) | _ => false
  | .unit, cs => cs.isEmpty
  | .slice _, cs => match cs with | [.slice none 0 0] => true | _ => false
  | .pair a b, cs => zeroB a (cs.take (size a)) && zeroB b (cs.drop (size a))

theorem zeroB_ok : {τ : Ty} → {cs : List Value} → zeroB τ cs = true → cs = zeroCells τ
  | .int k, cs, h => by
    simp only [zeroB] at h
    split at h
    · simp only [Bool.and_eq_true, decide_eq_true_eq] at h
      obtain ⟨rfl, rfl⟩ := h; rfl
    · cases h
  | .bool, cs, h => by
    simp only [zeroB] at h
    split at h
    · rename_i b; cases b
      · rfl
      · cases h
    · cases h
  | .str, cs, h => by
    simp only [zeroB] at h
    split at h
    · rename_i s
      simp only [decide_eq_true_eq] at h
      obtain ⟨⟨l⟩⟩ := s
      have : l = [] := List.length_eq_zero_iff.1 h
      subst this; rfl
    · cases h
  | .unit, cs, h => by simp only [zeroB, List.isEmpty_iff] at h; exact h
  | .slice _, cs, h => by
    simp only [zeroB] at h
    split at h
    · rfl
    · cases h
  | .pair a b, cs, h => by
    simp only [zeroB, Bool.and_eq_true] at h
    have h1 := zeroB_ok h.1
    have h2 := zeroB_ok h.2
    rw [zeroCells, ← h1, ← h2, List.take_append_drop]

def oneB : Value → Bool := one
def aggB : Value → Bool | .agg _ => true | _ => false

def fieldB (P : Program) (tys : List (TypeId × Ty × List TypeId)) (τ : Ty) (l : List TypeId) (fs : Array Field) (i : Nat) : Bool :=
  match fs[i]?, tyAt τ (fieldPath l.length i) with
  | some f, some τf => decide (f.type = l.getD i 0) && decide (f.offset = offP τ (fieldPath l.length i)) && decide (tyOf tys f.type = some τf) && decide (size τf ≠ 0) && decide (f.name ≠ "_")
  | _, _ => false

def tyB (P : Program) (tys : List (TypeId × Ty × List TypeId)) (t : TypeId) (τ : Ty) (l : List TypeId) : Bool :=
  (match P.info? t with
   | some i => decide (i.size = size τ) && decide (i.bytes ≤ 65536) && decide (i.bytes ≠ 0) && (match i.zero with | some z => zeroB τ z.cells.toList && (if l.isEmpty then one z else aggB z) | none => false)
   | none => false) &&
  (match l with
   | [] => (match τ, P.underlying t with
     | .int k, some (.int k') => decide (k = k')
     | .bool, some .bool => true
     | .str, some .string => true
     | .slice e, some (.slice et) => decide (tyOf tys et = some e) && (!plainB e || !agOf tys et)
     | _, _ => false)
   | _ => (match P.underlying t with
     | some (.struct fs) => decide (fs.size = l.length) && (List.range l.length).all (fieldB P tys τ l fs) && !P.stoodInHeld t
     | _ => false))

def tysB (P : Program) (tys : List (TypeId × Ty × List TypeId)) : Bool := tys.all fun x => tyB P tys x.1 x.2.1 x.2.2

theorem assoc_mem {α : Type} : {l : List (Nat × α)} → {n : Nat} → {a : α} → assoc l n = some a → (n, a) ∈ l
  | (m, b) :: l, n, a, h => by
    simp only [assoc] at h
    split at h
    · rename_i he; simp at he; subst he; cases h; simp
    · exact List.mem_cons_of_mem _ (assoc_mem h)

theorem tysB_ok {P : Program} {tys : List (TypeId × Ty × List TypeId)} (h : tysB P tys = true) : TysOk P tys := by
  intro t τ l ha
  have hm := assoc_mem ha
  have hb := List.all_eq_true.1 h _ hm
  simp only [tyB, Bool.and_eq_true] at hb
  obtain ⟨h1, h2⟩ := hb
  refine ⟨?_, ?_, ?_⟩
  · split at h1
    · rename_i i hi
      simp only [Bool.and_eq_true, decide_eq_true_eq] at h1
      obtain ⟨⟨⟨h3, h4⟩, h4'⟩, h5⟩ := h1
      split at h5
      · rename_i z hz
        simp only [Bool.and_eq_true] at h5
        refine ⟨i, z, hi, h3, h4, h4', hz, zeroB_ok h5.1, ?_⟩
        cases hl : l.isEmpty with
        | true => rw [hl] at h5; simp only [if_true] at h5; exact h5.2
        | false =>
          rw [hl] at h5
          simp only [Bool.false_eq_true, if_false] at h5
          cases z <;> simp_all [aggB, Shaped]
      · cases h5
    · cases h1
  · rintro rfl
    simp only [] at h2
    split at h2
    · rename_i k k' hu
      simp only [decide_eq_true_eq] at h2; subst h2
      exact ⟨fun k h => by cases h; exact hu, by simp, by simp, by simp, by simp, by simp⟩
    · rename_i hu
      exact ⟨by simp, fun _ => hu, by simp, by simp, by simp, by simp⟩
    · rename_i hu
      exact ⟨by simp, by simp, fun _ => hu, by simp, by simp, by simp⟩
    · rename_i e et hu
      simp only [Bool.and_eq_true, decide_eq_true_eq, Bool.or_eq_true, Bool.not_eq_true'] at h2
      refine ⟨by simp, by simp, by simp, fun e' h => ?_, by simp, by simp⟩
      cases h
      exact ⟨et, hu, h2.1, fun hp => h2.2.resolve_left (by rw [hp]; simp)⟩
    · cases h2
  · intro hl
    cases l with
    | nil => exact absurd rfl hl
    | cons a l =>
      simp only [] at h2
      split at h2
      · rename_i fs hu
        simp only [Bool.and_eq_true, decide_eq_true_eq, List.all_eq_true, List.mem_range, Bool.not_eq_true'] at h2
        refine ⟨fs, hu, h2.1.1, fun i hi => ?_, h2.2⟩
        have := h2.1.2 i hi
        unfold fieldB at this
        split at this
        · rename_i f τf hf hτ
          simp only [Bool.and_eq_true, decide_eq_true_eq] at this
          obtain ⟨⟨⟨⟨h6, h7⟩, h8⟩, h9⟩, h10⟩ := this
          unfold tyOf at h8
          cases ha2 : assoc tys f.type with
          | none => rw [ha2] at h8; cases h8
          | some x =>
            rw [ha2] at h8
            simp only [Option.map_some, Option.some.injEq] at h8
            exact ⟨⟨f, τf, x.2, hf, h6, h7, hτ, by rw [← h8]; exact ha2, h9, h10⟩⟩
        · cases this
      · cases h2

theorem zero_rp {w : World} {F : Nat → Nat} {St Al : Nat → Prop} : (τ : Ty) → Rp w F St Al τ (List.replicate (leaves τ) .O) (zeroCells τ) (zero τ) []
  | .int _ => ⟨rfl, rfl, rfl⟩
  | .bool => ⟨rfl, rfl, rfl⟩
  | .str => ⟨rfl, rfl, rfl⟩
  | .unit => ⟨rfl, rfl, rfl⟩
  | .slice e => ⟨.O, none, 0, rfl, rfl, Nat.le_refl _, .inl ⟨rfl, rfl, rfl, rfl, rfl⟩⟩
  | .pair a b => by
    have := Rp.pair_mk (zero_rp (w := w) (F := F) (St := St) (Al := Al) a) (zero_rp b)
    rw [List.replicate_append_replicate] at this
    exact this
end Go.PI
namespace Go.PI

theorem one_cells {v : Value} (h : one v = true) : vCells v = [v] := by cases v <;> simp_all [one, vCells, Value.cells]

section
variable {w : World} {F : Nat → Nat} {St Al : Nat → Prop} {v : Value} {tg : List Tag} {fp : List Nat}
theorem val_int {k : IntKind} {x : Int} (hs : Shaped false v) (h : Rp w F St Al (.int k) tg (vCells v) x fp) : v = .int k x := by
  have := h.1; rw [one_cells hs] at this; simpa using this
theorem val_bool {x : Bool} (hs : Shaped false v) (h : Rp w F St Al .bool tg (vCells v) x fp) : v = .bool x := by
  have := h.1; rw [one_cells hs] at this; simpa using this
theorem val_str {x : ByteArray} (hs : Shaped false v) (h : Rp w F St Al .str tg (vCells v) x fp) : v = .string x := by
  have := h.1; rw [one_cells hs] at this; simpa using this
theorem val_slice {e : Ty} {x : List (El e)} (hs : Shaped false v) (h : Rp w F St Al (.slice e) tg (vCells v) x fp) : ∃ a cap, v = .slice a x.length cap ∧ x.length ≤ cap := by
  obtain ⟨t, a, cap, _, hc, hl, _⟩ := h; rw [one_cells hs] at hc; exact ⟨a, cap, by simpa using hc, hl⟩
end

theorem cellsAt_cell {w : World} {b o n : Nat} {cs : List Value} (h : cellsAt w b o n = some cs) (j : Nat) (v : Value) (hj : cs[j]? = some v) : w.cell? ((⟨b, o, none⟩ : Addr).add j) = some v := by
  have hadd : (⟨b, o, none⟩ : Addr).add j = ⟨b, o + j, none⟩ := by unfold Addr.add; split <;> simp_all
  rw [hadd]
  unfold cellsAt at h
  split at h
  · rename_i c T fr hb
    split at h
    · cases h
      simp only [World.cell?, hb]
      simp only [List.getElem?_take, List.getElem?_drop] at hj
      split at hj
      · simpa using hj
      · cases hj
    · cases h
  · cases h

theorem tyAt_nil (τ : Ty) : tyAt τ [] = some τ := by cases τ <;> rfl
theorem offP_nil (τ : Ty) : offP τ [] = 0 := by cases τ <;> rfl

theorem locP_flat {w : World} : {q : List Step} → {τ τf : Ty} → {cs : List Value} → {base : Option (Nat × Nat)} → tyAt τ q = some τf → cs.length = size τ →
    locP w τ cs base q = some ((cs.drop (offP τ q)).take (size τf), base.map fun x => (x.1, x.2 + offP τ q)) ∧ offP τ q + size τf ≤ size τ
  | [], τ, τf, cs, base, h, hl => by
    rw [tyAt_nil] at h; cases h
    rw [locP_nil, offP_nil]
    refine ⟨?_, by omega⟩
    rw [List.drop_zero, ← hl, List.take_length]
    cases base <;> simp
  | .fst :: p, .pair a b, τf, cs, base, h, hl => by
    simp only [tyAt] at h
    simp only [size] at hl
    obtain ⟨h1, h2⟩ := locP_flat (w := w) (cs := cs.take (size a)) (base := base) h (by simp; omega)
    simp only [locP, offP, size]
    refine ⟨?_, by omega⟩
    rw [h1, List.drop_take, List.take_take]
    congr 2
    congr 1
    omega
  | .snd :: p, .pair a b, τf, cs, base, h, hl => by
    simp only [tyAt] at h
    simp only [size] at hl
    obtain ⟨h1, h2⟩ := locP_flat (w := w) (cs := cs.drop (size a)) (base := base.map fun x => (x.1, x.2 + size a)) h (by simp; omega)
    simp only [locP, offP, size]
    refine ⟨?_, by omega⟩
    rw [h1, List.drop_drop]
    cases base with
    | none => rfl
    | some z => simp [Nat.add_assoc]
  | .idx _ :: _, .int _, _, _, _, h, _ => by simp [tyAt] at h
  | .idx _ :: _, .bool, _, _, _, h, _ => by simp [tyAt] at h
  | .idx _ :: _, .str, _, _, _, h, _ => by simp [tyAt] at h
  | .idx _ :: _, .unit, _, _, _, h, _ => by simp [tyAt] at h
  | .idx _ :: _, .slice _, _, _, _, h, _ => by simp [tyAt] at h
  | .idx _ :: _, .pair _ _, _, _, _, h, _ => by simp [tyAt] at h
  | .fst :: _, .int _, _, _, _, h, _ => by simp [tyAt] at h
  | .fst :: _, .bool, _, _, _, h, _ => by simp [tyAt] at h
  | .fst :: _, .str, _, _, _, h, _ => by simp [tyAt] at h
  | .fst :: _, .unit, _, _, _, h, _ => by simp [tyAt] at h
  | .fst :: _, .slice _, _, _, _, h, _ => by simp [tyAt] at h
  | .snd :: _, .int _, _, _, _, h, _ => by simp [tyAt] at h
  | .snd :: _, .bool, _, _, _, h, _ => by simp [tyAt] at h
  | .snd :: _, .str, _, _, _, h, _ => by simp [tyAt] at h
  | .snd :: _, .unit, _, _, _, h, _ => by simp [tyAt] at h
  | .snd :: _, .slice _, _, _, _, h, _ => by simp [tyAt] at h

def gathered (ag : Bool) (cs : List Value) : Value := if ag then .agg cs.toArray else cs.headD undef

theorem run_loadVar {P : Program} {tys : List (TypeId × Ty × List TypeId)} (hT : TysOk P tys) {t : TypeId} {τ : Ty} {l : List TypeId} (ht : assoc tys t = some (τ, l)) {w : World} {b o : Nat} {cs : List Value}
    (h : cellsAt w b o (size τ) = some cs) : (loadVar t ⟨b, o, none⟩).run P w = .ok (gathered (!l.isEmpty) cs) w := by
  obtain ⟨⟨i, z, hi, hs, _, _, hz, hzc, _⟩, hu, hst⟩ := hT t τ l ht
  have hlen := cellsAt_len h
  cases l with
  | cons a l =>
    obtain ⟨fs, hf, _, _⟩ := hst (by simp)
    have := run_loadCells_list (P := P) w ⟨b, o, none⟩ cs (cellsAt_cell h)
    rw [hlen, ← hs] at this
    simp [loadVar, isAgg, run_underlying hf, sizeOf, typeInfo, hi, this, gathered]
  | nil =>
    have hs1 : ∃ d, P.underlying t = some d ∧ (∀ fs, d ≠ .struct fs) ∧ (∀ n e, d ≠ .array n e) ∧ size τ = 1 := by
      obtain ⟨h1, h2, h3, h4, h5, h6⟩ := hu rfl
      cases τ with
      | int k => exact ⟨_, h1 k rfl, by simp, by simp, rfl⟩
      | bool => exact ⟨_, h2 rfl, by simp, by simp, rfl⟩
      | str => exact ⟨_, h3 rfl, by simp, by simp, rfl⟩
      | unit => exact absurd rfl h5
      | slice e => obtain ⟨et, h7, _, _⟩ := h4 e rfl; exact ⟨_, h7, by simp, by simp, rfl⟩
      | pair a b => exact absurd rfl (h6 a b)
    obtain ⟨d, hd, hn1, hn2, hsz⟩ := hs1
    have h1 : ∃ c, cs = [c] := by
      rw [hsz] at hlen
      match cs, hlen with
      | [c], _ => exact ⟨c, rfl⟩
    obtain ⟨c, rfl⟩ := h1
    have hc := cellsAt_cell h 0 c rfl
    have hagg : (isAgg t).run P w = .ok false w := by
      simp only [isAgg, Sem.run_bind, run_underlying hd, Result.andThen_ok]
      cases d <;> first | rfl | (exact absurd rfl (hn1 _)) | (exact absurd rfl (hn2 _ _))
    simp only [loadVar, Sem.run_bind, hagg, Result.andThen_ok, Bool.false_eq_true, if_false]
    rw [run_load]
    have : (⟨b, o, none⟩ : Addr).add 0 = ⟨b, o, none⟩ := by simp [Addr.add]
    rw [this] at hc
    rw [hc]
    rfl
end Go.PI
namespace Go.PI

def BCalm (w : World) (G : Ghost) (w2 : World) : Prop := ∀ i b, G.who b = some (.a i) → w2.heap[b]? = w.heap[b]?
def Calm (w : World) (G : Ghost) (w2 : World) : Prop :=
  (∀ b, b < w.heap.size → G.Al b → ∀ o n cs, o + n ≤ G.F b → cellsAt w b o n = some cs → cellsAt w2 b o n = some cs) ∧ ∀ i b, G.who b = some (.a i) → w2.heap[b]? = w.heap[b]?

theorem Rp.ones {w : World} {F : Nat → Nat} {St Al : Nat → Prop} : {τ : Ty} → {tg : List Tag} → {cs : List Value} → {x : El τ} → {fp : List Nat} → Rp w F St Al τ tg cs x fp → ∀ c ∈ cs, one c = true
  | .int _, _, _, _, _, h => by obtain ⟨rfl, _⟩ := h; simp [one]
  | .bool, _, _, _, _, h => by obtain ⟨rfl, _⟩ := h; simp [one]
  | .str, _, _, _, _, h => by obtain ⟨rfl, _⟩ := h; simp [one]
  | .unit, _, _, _, _, h => by obtain ⟨rfl, _⟩ := h; simp
  | .slice _, _, _, _, _, h => by obtain ⟨t, a, cap, rfl, rfl, _⟩ := h; simp [one]
  | .pair a b, _, _, _, _, h => by
    obtain ⟨t1, t2, c1, c2, f1, f2, rfl, rfl, rfl, h1, h2⟩ := h
    intro c hc
    rcases List.mem_append.1 hc with hc | hc
    · exact Rp.ones h1 c hc
    · exact Rp.ones h2 c hc

theorem gathered_ok {ag : Bool} {cs : List Value} (h1 : ∀ c ∈ cs, one c = true) (h2 : ag = false → cs.length = 1) : vCells (gathered ag cs) = cs ∧ Shaped ag (gathered ag cs) := by
  cases ag with
  | true => exact ⟨by simp [gathered, vCells, Value.cells], ⟨_, rfl⟩⟩
  | false =>
    match cs, h2 rfl with
    | [c], _ =>
      have := h1 c (by simp)
      exact ⟨one_cells this, this⟩

theorem cellsAt_sub {w : World} {b o n : Nat} {cs : List Value} (h : cellsAt w b o n = some cs) {i m : Nat} (hm : i + m ≤ n) : cellsAt w b (o + i) m = some ((cs.drop i).take m) := by
  unfold cellsAt at *
  split at h
  · rename_i c T fr hb
    split at h
    · cases h
      rw [if_pos (by omega)]
      congr 1
      rw [List.drop_take, List.drop_drop, List.take_take]
      congr 1
      omega
    · cases h
  · cases h

section
variable {W0 : Base} {M : Nat → Prop} {σ : State} {a : Act} {w : World} {G : Ghost} {xs : List Nat}

theorem locP_cells {F : Nat → Nat} {St Al : Nat → Prop} (hSA : ∀ b, St b → Al b) :
    {path : List Step} → {τ : Ty} → {tg : List Tag} → {cs cs' : List Value} → {x : El τ} → {fp : List Nat} → {base : Option (Nat × Nat)} → {b' o' : Nat} →
    Rp w F St Al τ tg cs x fp → (∀ b o, base = some (b, o) → cellsAt w b o cs.length = some cs) → locP w τ cs base path = some (cs', some (b', o')) →
    cellsAt w b' o' cs'.length = some cs' ∧ ((∃ o, base = some (b', o) ∧ o ≤ o' ∧ o' + cs'.length ≤ o + cs.length) ∨ (Al b' ∧ o' + cs'.length ≤ F b'))
  | [], τ, tg, cs, cs', x, fp, base, b', o', h, hb, hl => by
    rw [locP_nil] at hl
    simp only [Option.some.injEq, Prod.mk.injEq] at hl
    obtain ⟨rfl, hbs⟩ := hl
    exact ⟨hb _ _ hbs, .inl ⟨o', hbs, Nat.le_refl _, Nat.le_refl _⟩⟩
  | .fst :: p, .pair a b, tg, cs, cs', x, fp, base, b', o', h, hb, hl => by
    have hlen := h.len.1
    obtain ⟨f1, f2, rfl, h1, h2⟩ := h.pair_parts
    simp only [size] at hlen
    obtain ⟨h3, h4⟩ := locP_cells hSA (path := p) h1 (fun b o hbs => by
      have := cellsAt_sub (hb b o hbs) (i := 0) (m := (cs.take (size a)).length) (by simp; omega)
      simp only [Nat.add_zero, List.drop_zero] at this
      rw [this]; simp) hl
    refine ⟨h3, h4.imp (fun ⟨o, h5, h6, h7⟩ => ⟨o, h5, h6, ?_⟩) id⟩
    simp at h7; omega
  | .snd :: p, .pair a b, tg, cs, cs', x, fp, base, b', o', h, hb, hl => by
    have hlen := h.len.1
    obtain ⟨f1, f2, rfl, h1, h2⟩ := h.pair_parts
    simp only [size] at hlen
    obtain ⟨h3, h4⟩ := locP_cells hSA (path := p) h2 (fun b o hbs => by
      cases hbs2 : base with
      | none => rw [hbs2] at hbs; cases hbs
      | some z =>
        rw [hbs2] at hbs
        simp only [Option.map_some, Option.some.injEq, Prod.mk.injEq] at hbs
        obtain ⟨rfl, rfl⟩ := hbs
        have := cellsAt_sub (hb z.1 z.2 hbs2) (i := size a) (m := (cs.drop (size a)).length) (by simp; omega)
        rw [this, List.take_length]) hl
    refine ⟨h3, h4.imp (fun ⟨o, h5, h6, h7⟩ => ?_) id⟩
    cases hbs2 : base with
    | none => rw [hbs2] at h5; cases h5
    | some z =>
      rw [hbs2] at h5
      simp only [Option.map_some, Option.some.injEq, Prod.mk.injEq] at h5
      obtain ⟨rfl, rfl⟩ := h5
      refine ⟨z.2, rfl, by omega, ?_⟩
      simp at h7; omega
  | .idx i :: p, .slice e, tg, cs, cs', x, fp, base, b', o', h, hb, hl => by
    obtain ⟨t, ad, cap, rfl, rfl, hlc, h⟩ := h
    simp only [locP] at hl
    split at hl
    · rename_i b o len cap' heq
      simp only [List.cons.injEq, Value.slice.injEq, and_true] at heq
      obtain ⟨rfl, rfl, rfl⟩ := heq
      split at hl
      · rename_i hi
        split at hl
        · rename_i cse hce
          have hcl := cellsAt_len hce
          have hbd : o + i * size e + size e ≤ o + List.length (α := El e) x * size e := by
            have : (i + 1) * size e ≤ List.length (α := El e) x * size e := Nat.mul_le_mul_right _ hi
            rw [Nat.add_mul, Nat.one_mul] at this
            omega
          have key : ∀ {tg' f'} (_ : Rp w F St Al e tg' cse (List.get (α := El e) x ⟨i, hi⟩) f') (_ : Al b) (_ : o + List.length (α := El e) x * size e ≤ F b),
              cellsAt w b' o' cs'.length = some cs' ∧ ((∃ o, base = some (b', o) ∧ o ≤ o' ∧ o' + cs'.length ≤ o + 1) ∨ (Al b' ∧ o' + cs'.length ≤ F b')) := by
            intro tg' f' hk hal hF
            obtain ⟨h3, h4⟩ := locP_cells hSA (path := p) hk (fun b2 o2 hbs => by
              simp only [Option.some.injEq, Prod.mk.injEq] at hbs
              obtain ⟨rfl, rfl⟩ := hbs
              rw [hcl]; exact hce) hl
            refine ⟨h3, .inr ?_⟩
            rcases h4 with ⟨o2, h5, h6, h7⟩ | h4
            · simp only [Option.some.injEq, Prod.mk.injEq] at h5
              obtain ⟨rfl, rfl⟩ := h5
              exact ⟨hal, by omega⟩
            · exact h4
          rcases h with ⟨_, hn, _⟩ | ⟨ho, b2, o2, fps, hbb, hal, rfl, hlf, hr, hF, he⟩ | ⟨ho, rfl, h⟩
          · cases hn
          · simp only [Option.some.injEq, Addr.mk.injEq, and_true] at hbb
            obtain ⟨rfl, rfl⟩ := hbb
            obtain ⟨c2, hc2, hk⟩ := he i hi
            rw [hce] at hc2
            cases hc2
            exact key hk hal (by omega)
          · rcases h with h | ⟨b2, o2, hbb, htb, hF, he⟩
            · subst h; simp at hi
            · simp only [Option.some.injEq, Addr.mk.injEq, and_true] at hbb
              obtain ⟨rfl, rfl⟩ := hbb
              obtain ⟨c2, hc2, hk⟩ := he i hi
              rw [hce] at hc2
              cases hc2
              refine key hk ?_ hF
              cases t with
              | S => exact hSA b htb
              | N => exact htb
              | _ => cases ho
        · cases hl
      · cases hl
    · cases hl
  | .fst :: _, .int _, _, _, _, _, _, _, _, _, _, _, hl => by simp [locP] at hl
  | .fst :: _, .bool, _, _, _, _, _, _, _, _, _, _, hl => by simp [locP] at hl
  | .fst :: _, .str, _, _, _, _, _, _, _, _, _, _, hl => by simp [locP] at hl
  | .fst :: _, .unit, _, _, _, _, _, _, _, _, _, _, hl => by simp [locP] at hl
  | .fst :: _, .slice _, _, _, _, _, _, _, _, _, _, _, hl => by simp [locP] at hl
  | .snd :: _, .int _, _, _, _, _, _, _, _, _, _, _, hl => by simp [locP] at hl
  | .snd :: _, .bool, _, _, _, _, _, _, _, _, _, _, hl => by simp [locP] at hl
  | .snd :: _, .str, _, _, _, _, _, _, _, _, _, _, hl => by simp [locP] at hl
  | .snd :: _, .unit, _, _, _, _, _, _, _, _, _, _, hl => by simp [locP] at hl
  | .snd :: _, .slice _, _, _, _, _, _, _, _, _, _, _, hl => by simp [locP] at hl
  | .idx _ :: _, .int _, _, _, _, _, _, _, _, _, _, _, hl => by simp [locP] at hl
  | .idx _ :: _, .bool, _, _, _, _, _, _, _, _, _, _, hl => by simp [locP] at hl
  | .idx _ :: _, .str, _, _, _, _, _, _, _, _, _, _, hl => by simp [locP] at hl
  | .idx _ :: _, .unit, _, _, _, _, _, _, _, _, _, _, hl => by simp [locP] at hl
  | .idx _ :: _, .pair _ _, _, _, _, _, _, _, _, _, _, _, hl => by simp [locP] at hl

theorem place_cells (I : Inv W0 M σ a w G xs) {p : Place} {cs : List Value} {b o : Nat} (hp : PlaceAt σ G a w p cs (some (b, o))) {w2 : World} (hc : Calm w G w2) :
    cellsAt w2 b o cs.length = some cs := by
  obtain ⟨τ, l, bs, hct, hr, hl⟩ := hp
  obtain ⟨c, hcn, rfl⟩ := Option.map_eq_some_iff.1 hct
  obtain ⟨l', b', fp, hr', hrp, hw⟩ := content_root I hcn
  rw [hr] at hr'
  cases hr'
  have hroot : ∀ b o, bs = some (b, o) → cellsAt w b o l.length = some l ∧ w2.heap[b]? = w.heap[b]? := by
    intro b o hbs
    rcases hw with ⟨hb, hbx, _, hbe⟩ | ⟨hb, _, _, hbe, _⟩
    · rw [hbe] at hbs
      simp only [Option.some.injEq, Prod.mk.injEq] at hbs
      obtain ⟨rfl, rfl⟩ := hbs
      obtain ⟨⟨cc, T, hcc, hrr⟩, hwho⟩ := I.box _ _ hbx
      refine ⟨?_, hc.2 _ _ hwho⟩
      have : l = cc.toList := by
        unfold rootLoc at hr
        rw [hb] at hr
        simp only [hcc, Option.some.injEq, Prod.mk.injEq] at hr
        exact hr.1.symm
      subst this
      unfold cellsAt
      rw [hcc]
      simp only [Nat.zero_add, List.drop_zero]
      rw [if_pos (by have : cc.toList.length = cc.size := Array.length_toList; omega), List.take_length]
    · rw [hbe] at hbs; cases hbs
  obtain ⟨h1, h2⟩ := locP_cells (Ghost.St_Al I) hrp (fun b o hbs => (hroot b o hbs).1) hl
  rcases h2 with ⟨o2, h3, _⟩ | ⟨hal, hF⟩
  · rw [cellsAt_congr (hroot _ _ h3).2]; exact h1
  · exact hc.1 b (cellsAt_lt h1) hal _ _ _ hF h1

theorem place_len (I : Inv W0 M σ a w G xs) {p : Place} {u : TVal} {cs : List Value} {base : Option (Nat × Nat)} (h : σ.getAt p = some u) (hp : PlaceAt σ G a w p cs base) :
    cs.length = size u.τ ∧ ∀ c ∈ cs, one c = true := by
  obtain ⟨fp, hr⟩ := place_rp I h hp
  exact ⟨hr.len.1, hr.ones⟩

theorem refTo_rel (I : Inv W0 M σ a w G xs) {p : Place} {ag : Bool} {tv : TV} {v : Value} {cs : List Value} {base : Option (Nat × Nat)} (h : refTo σ p ag = some tv) (hp : PlaceAt σ G a w p cs base)
    (hv : vCells v = cs) (hs : Shaped ag v) : SlotRel σ G a w tv v [] := by
  unfold refTo at h
  split at h
  · rename_i u hu
    cases h
    split
    · rename_i hl
      obtain ⟨fp, hr⟩ := place_rp I hu hp
      have hfp : fp = [] := hr.fp_nil fun t ht => by
        have := List.all_eq_true.1 hl t ht
        cases t <;> first | rfl | cases this
      subst hfp
      exact ⟨hs, by rw [hv]; exact hr⟩
    · exact ⟨rfl, .inr ⟨cs, base, hp, hv, hs⟩⟩
  · cases h

theorem PtrRel.some {p : Place} {v : Value} {u : TVal} (h : PtrRel σ G a w p v) (hg : σ.getAt p = some u) : ∃ cs b, PlaceAt σ G a w p cs (some b) ∧ v = .pointer (some ⟨b.1, b.2, none⟩) := by
  rcases h with h | h
  · obtain ⟨c, hc, _⟩ := getAt_content hg
    rw [State.ct, hc] at h; cases h
  · exact h

theorem exec_with {ρ : Operand → Value} {o : Oper} {op : Op} (h : o.op = op) : execOp ρ o = execOp ρ { o with op := op } := by cases o; simp only at h; subst h; rfl

def SoftOk (P : Program) (σ : State) (a : Act) (w : World) (G : Ghost) (o : Oper) (tv : TV) : Prop :=
  ∃ v, SlotRel σ G a w tv v [] ∧ ∀ w2, Calm w G w2 → (execOp a.eval o).run P w2 = .ok (.value v) w2

def SoftAll (P : Program) (σ : State) (a : Act) (w : World) (G : Ghost) (o : Oper) (tv : TV) : Prop :=
  ∃ v, SlotRel σ G a w tv v [] ∧ ∀ w2, (execOp a.eval o).run P w2 = .ok (.value v) w2
theorem SoftAll.ok {P : Program} {σ : State} {a : Act} {w : World} {G : Ghost} {o : Oper} {tv : TV} (h : SoftAll P σ a w G o tv) : SoftOk P σ a w G o tv := by
  obtain ⟨v, h1, h2⟩ := h
  exact ⟨v, h1, fun w2 _ => h2 w2⟩

theorem soft_load {P : Program} {tys : List (TypeId × Ty × List TypeId)} (hT : TysOk P tys) (I : Inv W0 M σ a w G xs) {o : Oper} {t : TypeId} {x : Operand} (ho : o.op = .load t x) {g : Bool} {tv : TV}
    (h : softV tys σ o.op = some (g, tv)) : SoftOk P σ a w G o tv := by
  rw [ho] at h
  simp only [softV] at h
  have hpk := peek_rel I x
  split at h
  · rename_i τ p hτ hp
    rw [hp] at hpk
    have hpk := hpk (by simp)
    split at h
    · rename_i u hu
      split at h
      · rename_i hut
        obtain ⟨tv', hrt, he⟩ := Option.map_eq_some_iff.1 h
        simp only [Prod.mk.injEq] at he
        obtain ⟨rfl, rfl⟩ := he
        obtain ⟨⟨τ', l⟩, hta, hτe⟩ := Option.map_eq_some_iff.1 hτ
        simp only at hτe; subst hτe
        obtain ⟨cs, b, hpl, hv⟩ := hpk.2.2.2.some hu
        obtain ⟨hlen, hone⟩ := place_len I hu hpl
        have hag : agOf tys t = !l.isEmpty := by simp [agOf, hta]
        have hgo := gathered_ok (ag := agOf tys t) hone (fun hf => by
          rw [hlen, hut]
          rw [hag] at hf
          have hl : l = [] := by simpa using hf
          obtain ⟨_, _, _, _, h5, h6⟩ := (hT t τ' l hta).und hl
          cases τ' <;> first | rfl | (exact absurd rfl h5) | (exact absurd rfl (h6 _ _)))
        refine ⟨gathered (agOf tys t) cs, refTo_rel I hrt hpl hgo.1 hgo.2, fun w2 hc => ?_⟩
        have hcell := place_cells I hpl hc
        rw [hlen, hut] at hcell
        have := run_loadVar (w := w2) hT hta hcell
        rw [exec_with ho]
        simp only [execOp, hv, Instr.loadAt, Instr.sureAddr, Sem.run_bind, Sem.run_pure, Result.andThen_ok, this, hag]
      · cases h
    · cases h
  · rename_i τ p hτ hp
    rw [hp] at hpk
    have hpk := hpk (by simp)
    split at h
    · rename_i u hu
      split at h
      · rename_i hut
        obtain ⟨tv', hrt, he⟩ := Option.map_eq_some_iff.1 h
        simp only [Prod.mk.injEq] at he
        obtain ⟨rfl, rfl⟩ := he
        obtain ⟨⟨τ', l⟩, hta, hτe⟩ := Option.map_eq_some_iff.1 hτ
        simp only at hτe; subst hτe
        obtain ⟨cs, b, hpl, hv⟩ := hpk.2.some hu
        obtain ⟨hlen, hone⟩ := place_len I hu hpl
        have hag : agOf tys t = !l.isEmpty := by simp [agOf, hta]
        have hgo := gathered_ok (ag := agOf tys t) hone (fun hf => by
          rw [hlen, hut]
          rw [hag] at hf
          have hl : l = [] := by simpa using hf
          obtain ⟨_, _, _, _, h5, h6⟩ := (hT t τ' l hta).und hl
          cases τ' <;> first | rfl | (exact absurd rfl h5) | (exact absurd rfl (h6 _ _)))
        refine ⟨gathered (agOf tys t) cs, refTo_rel I hrt hpl hgo.1 hgo.2, fun w2 hc => ?_⟩
        have hcell := place_cells I hpl hc
        rw [hlen, hut] at hcell
        have := run_loadVar (w := w2) hT hta hcell
        rw [exec_with ho]
        simp only [execOp, hv, Instr.loadAt, Instr.sureAddr, Sem.run_bind, Sem.run_pure, Result.andThen_ok, this, hag]
      · cases h
    · cases h
  · rename_i τ u tg hτ hp
    rw [hp] at hpk
    obtain ⟨_, hto, b, off, cs, hv, hcell, htb, hF, hN, hr⟩ := hpk (by simp)
    split at h
    · rename_i hut
      simp only [Option.some.injEq, Prod.mk.injEq] at h
      obtain ⟨rfl, rfl⟩ := h
      obtain ⟨⟨τ', l⟩, hta, hτe⟩ := Option.map_eq_some_iff.1 hτ
      simp only at hτe; subst hτe
      have hlen := hr.len.1
      have hag : agOf tys t = !l.isEmpty := by simp [agOf, hta]
      have hgo := gathered_ok (ag := agOf tys t) hr.ones (fun hf => by
        rw [hlen, hut]
        rw [hag] at hf
        have hl : l = [] := by simpa using hf
        obtain ⟨_, _, _, _, h5, h6⟩ := (hT t τ' l hta).und hl
        cases τ' <;> first | rfl | (exact absurd rfl h5) | (exact absurd rfl (h6 _ _)))
      refine ⟨gathered (agOf tys t) cs, ⟨hgo.2, ?_⟩, fun w2 hc => ?_⟩
      · rw [hgo.1]
        exact hr.alias (Ghost.St_Al I)
      · have hal : G.Al b := by
          cases tg with
          | S => exact Ghost.St_Al I b htb
          | N => exact htb
          | _ => cases hto
        have hcell2 := hc.1 b (cellsAt_lt hcell) hal _ _ _ hF hcell
        rw [hut] at hcell2
        have := run_loadVar (w := w2) hT hta hcell2
        rw [exec_with ho]
        simp only [execOp, hv, Instr.loadAt, Instr.sureAddr, Sem.run_bind, Sem.run_pure, Result.andThen_ok, this, hag]
    · cases h
  · rename_i τ r τr p hτ hp
    rw [hp] at hpk
    obtain ⟨_, hfl, b, off, τ2, hv, hat, hlr, hcell, hSt, hF⟩ := hpk (by simp)
    split at h
    · rename_i c hsl
      split at h
      · rename_i hcr
        split at h
        · rename_i u hu
          split at h
          · rename_i hut
            obtain ⟨tv', hrt, he⟩ := Option.map_eq_some_iff.1 h
            simp only [Prod.mk.injEq] at he
            obtain ⟨rfl, rfl⟩ := he
            obtain ⟨⟨τ', l⟩, hta, hτe⟩ := Option.map_eq_some_iff.1 hτ
            simp only at hτe; subst hτe
            subst hcr
            obtain ⟨hlc, _⟩ := locP_flat (w := w) (cs := vCells (a.tmps.getD r undef)) (base := none) hat hlr
            have hpl : PlaceAt σ G a w ⟨false, r, p⟩ (((vCells (a.tmps.getD r undef)).drop (offP c.τ p)).take (size τ2)) none :=
              ⟨c.τ, vCells (a.tmps.getD r undef), none, by simp [State.ct, State.content, hsl], rfl, hlc⟩
            obtain ⟨hlen, hone⟩ := place_len I hu hpl
            have hlen2 := cellsAt_len hcell
            have hag : agOf tys t = !l.isEmpty := by simp [agOf, hta]
            have hgo := gathered_ok (ag := agOf tys t) hone (fun hf => by
              rw [hlen, hut]
              rw [hag] at hf
              have hl : l = [] := by simpa using hf
              obtain ⟨_, _, _, _, h5, h6⟩ := (hT t τ' l hta).und hl
              cases τ' <;> first | rfl | (exact absurd rfl h5) | (exact absurd rfl (h6 _ _)))
            refine ⟨gathered (agOf tys t) _, refTo_rel I hrt hpl hgo.1 hgo.2, fun w2 hc => ?_⟩
            have hcell2 := hc.1 b (cellsAt_lt hcell) (Ghost.St_Al I b hSt) _ _ _ hF hcell
            have hsz : size τ2 = size τ' := by rw [← hlen2, hlen, hut]
            rw [hsz] at hcell2
            have := run_loadVar (w := w2) hT hta hcell2
            rw [exec_with ho]
            simp only [execOp, hv, Instr.loadAt, Instr.sureAddr, Sem.run_bind, Sem.run_pure, Result.andThen_ok, this, hag, hsz]
          · cases h
        · cases h
      · cases h
    · cases h
  · cases h
end
end Go.PI
namespace Go.PI

section
variable {W0 : Base} {M : Nat → Prop} {σ : State} {a : Act} {w : World} {G : Ghost} {xs : List Nat} {P : Program} {tys : List (TypeId × Ty × List TypeId)} {o : Oper} {g : Bool} {tv : TV}

theorem scal_rel {τ : Ty} {x : El τ} {v : Value} (h1 : one v = true) (h2 : Rp w G.F G.St G.Al τ [] [v] x []) : SlotRel σ G a w (.val (scal τ x)) v [] :=
  ⟨h1, by rw [one_cells h1]; exact h2⟩

theorem getN_lt' {σ : State} {i : Nat} (h : getN .dead σ.slots i ≠ .dead) : i < σ.slots.length := by
  rcases Nat.lt_or_ge i σ.slots.length with h1 | h1
  · exact h1
  · exact absurd (getN_ge (d := TV.dead) σ.slots i h1) h

theorem soft_move (I : Inv W0 M σ a w G xs) {x : Operand} (ho : o.op = .move x) (h : softV tys σ o.op = some (g, tv)) : SoftAll P σ a w G o tv := by
  rw [ho] at h
  simp only [softV] at h
  have hp := peek_rel I x
  split at h
  · cases h
  · cases h
  · rename_i v ags hpk
    split at h
    · rename_i t
      simp only [Option.some.injEq, Prod.mk.injEq] at h
      obtain ⟨rfl, rfl⟩ := h
      have hsl : σ.slot t = .tup v ags := by
        simp only [State.peek] at hpk
        split at hpk
        · split at hpk <;> cases hpk
        · exact hpk
      have hs := I.slot t (getN_lt' (by rw [show getN .dead σ.slots t = .tup v ags from hsl]; simp))
      rw [hsl] at hs
      obtain ⟨⟨vs, hv, hsh⟩, hr⟩ := hs
      refine ⟨a.eval (.tmp t), ⟨rfl, fun τ hτ => ⟨rfl, vs, hv, ?_⟩⟩, fun w2 => by rw [exec_with ho]; rfl⟩
      rw [ct_slot, hsl] at hτ
      cases hτ
      exact hsh
    · cases h
  · rename_i h1 h0 h2
    simp only [Option.some.injEq, Prod.mk.injEq] at h
    obtain ⟨rfl, rfl⟩ := h
    refine ⟨a.eval x, hp (fun v ags hh => h2 v ags hh), fun w2 => ?_⟩
    rw [exec_with ho]; rfl

theorem look_int (I : Inv W0 M σ a w G xs) {x : Operand} {k : IntKind} {n : Int} {tg : List Tag} (h : σ.look x = some ⟨.int k, false, n, tg⟩) : a.eval x = .int k n := by
  obtain ⟨h1, h2⟩ := look_rel I h; exact val_int h2 h1
theorem look_bool (I : Inv W0 M σ a w G xs) {x : Operand} {b : Bool} {tg : List Tag} (h : σ.look x = some ⟨.bool, false, b, tg⟩) : a.eval x = .bool b := by
  obtain ⟨h1, h2⟩ := look_rel I h; exact val_bool h2 h1
theorem look_str (I : Inv W0 M σ a w G xs) {x : Operand} {s : ByteArray} {tg : List Tag} (h : σ.look x = some ⟨.str, false, s, tg⟩) : a.eval x = .string s := by
  obtain ⟨h1, h2⟩ := look_rel I h; exact val_str h2 h1
theorem look_slice (I : Inv W0 M σ a w G xs) {x : Operand} {e : Ty} {l : List (El e)} {tg : List Tag} (h : σ.look x = some ⟨.slice e, false, l, tg⟩) : ∃ ad cap, a.eval x = .slice ad l.length cap ∧ l.length ≤ cap := by
  obtain ⟨h1, h2⟩ := look_rel I h; exact val_slice h2 h1

theorem soft_unOp (I : Inv W0 M σ a w G xs) {op : UnOp} {t : TypeId} {x : Operand} (ho : o.op = .unOp op t x) (h : softV tys σ o.op = some (g, tv)) : SoftAll P σ a w G o tv := by
  rw [ho] at h
  cases op
  case neg =>
    simp only [softV] at h
    split at h
    · rename_i k n tg hl
      simp only [Option.some.injEq, Prod.mk.injEq] at h
      obtain ⟨rfl, rfl⟩ := h
      refine ⟨.int k (k.wrap (0 - n)), scal_rel rfl ⟨rfl, rfl, rfl⟩, fun w2 => ?_⟩
      rw [exec_with ho]
      simp only [execOp, look_int I hl]
      simp [Op.unary, Op.intArith]
    · cases h
  case not =>
    simp only [softV] at h
    split at h
    · rename_i b tg hl
      simp only [Option.some.injEq, Prod.mk.injEq] at h
      obtain ⟨rfl, rfl⟩ := h
      refine ⟨.bool (!b), scal_rel rfl ⟨rfl, rfl, rfl⟩, fun w2 => ?_⟩
      rw [exec_with ho]
      simp only [execOp, look_bool I hl]
      simp [Op.unary]
    · cases h
  all_goals (simp only [softV] at h; cases h)

theorem run_lim {x y : ByteArray} (h : lim (x.size + y.size) = true) (w2 : World) : (Op.stringOp .add x y).run P w2 = .ok (.string (x ++ y)) w2 := by
  refine run_string_add_sum (P := P) w2 x y ?_
  have h2 : x.size + y.size ≤ LIM := of_decide_eq_true h
  have : LIM = 2147483648 := rfl
  omega

theorem run_quo {k : IntKind} {m n : Int} (h : ¬ n = 0) (w2 : World) : (Op.intDiv .quo k m n).run P w2 = .ok (.int k (k.wrap (m.tdiv n))) w2 := by
  unfold Op.intDiv; rw [if_neg h]; rfl
theorem run_rem {k : IntKind} {m n : Int} (h : ¬ n = 0) (w2 : World) : (Op.intDiv .rem k m n).run P w2 = .ok (.int k (m.tmod n)) w2 := by
  unfold Op.intDiv; rw [if_neg h]; rfl
theorem run_eq_bool {t : TypeId} (h : P.underlying t = some .bool) (x y : Bool) (w2 : World) : (Op.equal t (.bool x) (.bool y)).run P w2 = .ok (x == y) w2 := by
  show (Op.equalIn (9999 + 1) t (.bool x) (.bool y)).run P w2 = _
  unfold Op.equalIn
  simp only [Sem.run_bind, run_underlying h, Result.andThen_ok]
  rfl

theorem soft_binI (op : BinOp) (k : IntKind) (m n : Int) {r : Bool × TVal} (hr : binI op k m n = some r) (h1 : r.1 = true) (t : TypeId) (x y : Operand) :
    ∃ v, (∀ {σ : State} {a : Act} {w : World} {G : Ghost}, SlotRel σ G a w (.val r.2) v []) ∧ ∀ w2, ((do eqGuard op t x y (.int k m) (.int k n); binOp op t (.int k m) (.int k n) : Sem Value)).run P w2 = .ok v w2 := by
  cases op <;> simp only [binI, Option.some.injEq, reduceCtorEq] at hr <;> subst hr <;> simp only [Bool.not_eq_true', decide_eq_false_iff_not] at h1
  case quo =>
    refine ⟨_, scal_rel rfl ⟨rfl, rfl, rfl⟩, fun w2 => ?_⟩
    simp only [eqGuard_at_int, Sem.run_bind, Sem.run_pure, Result.andThen_ok]
    simp only [binOp, ne_eq, not_true_eq_false, if_false]
    exact run_quo h1 w2
  case rem =>
    refine ⟨_, scal_rel rfl ⟨rfl, rfl, rfl⟩, fun w2 => ?_⟩
    simp only [eqGuard_at_int, Sem.run_bind, Sem.run_pure, Result.andThen_ok]
    simp only [binOp, ne_eq, not_true_eq_false, if_false]
    exact run_rem h1 w2
  all_goals
    refine ⟨_, scal_rel rfl ⟨rfl, rfl, rfl⟩, fun w2 => ?_⟩
    simp [eqGuard_at_int, binOp, Op.intArith, Op.intCmp, Op.intBits]

theorem soft_binS (op : BinOp) (m n : ByteArray) {r : Bool × TVal} (hr : binS op m n = some r) (h1 : r.1 = true) (t : TypeId) (x y : Operand) :
    ∃ v, (∀ {σ : State} {a : Act} {w : World} {G : Ghost}, SlotRel σ G a w (.val r.2) v []) ∧ ∀ w2, ((do eqGuard op t x y (.string m) (.string n); binOp op t (.string m) (.string n) : Sem Value)).run P w2 = .ok v w2 := by
  cases op <;> simp only [binS, Option.some.injEq, reduceCtorEq] at hr <;> subst hr
  case add =>
    refine ⟨.string (m ++ n), scal_rel rfl ⟨rfl, rfl, rfl⟩, fun w2 => ?_⟩
    simp only [eqGuard_at_string, binOp_string_add, Sem.run_bind, Sem.run_pure, Result.andThen_ok]
    exact run_lim h1 w2
  all_goals exact ⟨_, scal_rel rfl ⟨rfl, rfl, rfl⟩, fun w2 => by simp [eqGuard_at_string, binOp, Op.stringOp]⟩

theorem tyOf_assoc {t : TypeId} {τ : Ty} (h : tyOf tys t = some τ) : ∃ l, assoc tys t = some (τ, l) ∧ agOf tys t = !l.isEmpty := by
  obtain ⟨⟨τ', l⟩, hta, hτe⟩ := Option.map_eq_some_iff.1 h
  simp only at hτe; subst hτe
  exact ⟨l, hta, by simp [agOf, hta]⟩
theorem und_bool (hT : TysOk P tys) {t : TypeId} (h : tyOf tys t = some .bool) (hg : agOf tys t = false) : P.underlying t = some .bool := by
  obtain ⟨l, hta, hag⟩ := tyOf_assoc h
  rw [hag] at hg
  have hl : l = [] := by simpa using hg
  exact ((hT t _ _ hta).und hl).2.1 rfl
theorem und_str (hT : TysOk P tys) {t : TypeId} (h : tyOf tys t = some .str) (hg : agOf tys t = false) : P.underlying t = some .string := by
  obtain ⟨l, hta, hag⟩ := tyOf_assoc h
  rw [hag] at hg
  have hl : l = [] := by simpa using hg
  exact ((hT t _ _ hta).und hl).2.2.1 rfl
theorem und_int (hT : TysOk P tys) {t : TypeId} {k : IntKind} (h : tyOf tys t = some (.int k)) (hg : agOf tys t = false) : P.underlying t = some (.int k) := by
  obtain ⟨l, hta, hag⟩ := tyOf_assoc h
  rw [hag] at hg
  have hl : l = [] := by simpa using hg
  exact ((hT t _ _ hta).und hl).1 k rfl
theorem und_slice (hT : TysOk P tys) {t : TypeId} {e : Ty} (h : tyOf tys t = some (.slice e)) (hg : agOf tys t = false) : ∃ et l, P.underlying t = some (.slice et) ∧ assoc tys et = some (e, l) ∧ (plainB e = true → l = []) := by
  obtain ⟨l, hta, hag⟩ := tyOf_assoc h
  rw [hag] at hg
  have hl : l = [] := by simpa using hg
  obtain ⟨et, h1, h2, h4⟩ := ((hT t _ _ hta).und hl).2.2.2.1 e rfl
  obtain ⟨l', h3, h5⟩ := tyOf_assoc h2
  exact ⟨et, l', h1, h3, fun hp => by have := h4 hp; rw [h5] at this; simpa using this⟩

theorem soft_binV (hT : TysOk P tys) (I : Inv W0 M σ a w G xs) {op : BinOp} {t ty : TypeId} {x y : Operand} (ho : o.op = .binOp op t x y ty) {u v : TVal} (hu : σ.look x = some u) (hv : σ.look y = some v) {r : Bool × TVal} (hr : binV tys t op u v = some r) (hr1 : r.1 = true) : SoftAll P σ a w G o (.val r.2) := by
  · unfold binV at hr
    split at hr
    · rename_i k m _ k2 n _
      simp only [Option.some.injEq] at hr
      subst hr
      simp only [Bool.not_eq_true', decide_eq_false_iff_not] at hr1
      refine ⟨_, scal_rel rfl ⟨rfl, rfl, rfl⟩, fun w2 => ?_⟩
      rw [exec_with ho]
      simp only [execOp, look_int I hu, look_int I hv]
      have : ¬ (n < 0) := hr1
      simp [eqGuard_at_int, binOp, Op.shift, this]
    · rename_i k m _ k2 n _
      simp only [Option.some.injEq] at hr
      subst hr
      simp only [Bool.not_eq_true', decide_eq_false_iff_not] at hr1
      refine ⟨_, scal_rel rfl ⟨rfl, rfl, rfl⟩, fun w2 => ?_⟩
      rw [exec_with ho]
      simp only [execOp, look_int I hu, look_int I hv]
      have : ¬ (n < 0) := hr1
      simp [eqGuard_at_int, binOp, Op.shift, this]
    · rename_i k m _ k2 n _ _ _
      split at hr
      · rename_i hk
        subst hk
        obtain ⟨v, hs, hv2⟩ := soft_binI (P := P) op k m n hr hr1 t x y
        refine ⟨v, hs, fun w2 => ?_⟩
        rw [exec_with ho]
        simp only [execOp, look_int I hu, look_int I hv]
        have := hv2 w2
        simp only [Sem.run_bind] at this ⊢
        rw [this]; rfl
      · cases hr
    · rename_i m _ n _
      obtain ⟨v, hs, hv2⟩ := soft_binS (P := P) op m n hr hr1 t x y
      refine ⟨v, hs, fun w2 => ?_⟩
      rw [exec_with ho]
      simp only [execOp, look_str I hu, look_str I hv]
      have := hv2 w2
      simp only [Sem.run_bind] at this ⊢
      rw [this]; rfl
    · rename_i b1 _ b2 _
      split at hr
      · rename_i hty
        simp only [Option.some.injEq] at hr
        subst hr
        have hl := und_bool hT hty.1 hty.2
        refine ⟨_, scal_rel rfl ⟨rfl, rfl, rfl⟩, fun w2 => ?_⟩
        rw [exec_with ho]
        simp only [execOp, look_bool I hu, look_bool I hv]
        simp only [eqGuard_at_bool, binOp, Sem.run_bind, Sem.run_pure, Result.andThen_ok, run_eq_bool hl]
      · cases hr
    · rename_i b1 _ b2 _
      split at hr
      · rename_i hty
        simp only [Option.some.injEq] at hr
        subst hr
        have hl := und_bool hT hty.1 hty.2
        refine ⟨_, scal_rel rfl ⟨rfl, rfl, rfl⟩, fun w2 => ?_⟩
        rw [exec_with ho]
        simp only [execOp, look_bool I hu, look_bool I hv]
        simp only [eqGuard_at_bool, binOp, Sem.run_bind, Sem.run_pure, Result.andThen_ok, run_eq_bool hl]
      · cases hr
    · cases hr
end
end Go.PI
namespace Go.PI

section
variable {W0 : Base} {M : Nat → Prop} {σ : State} {a : Act} {w : World} {G : Ghost} {xs : List Nat} {P : Program} {tys : List (TypeId × Ty × List TypeId)} {o : Oper} {g : Bool} {tv : TV}

theorem und_any (hT : TysOk P tys) {t : TypeId} {τ : Ty} (h : tyOf tys t = some τ) : ∃ d, P.underlying t = some d := by
  obtain ⟨l, hta, hag⟩ := tyOf_assoc h
  cases l with
  | cons c l => obtain ⟨fs, hf, _⟩ := (hT t _ _ hta).str (by simp); exact ⟨_, hf⟩
  | nil =>
    obtain ⟨h1, h2, h3, h4, h5, h6⟩ := (hT t _ _ hta).und rfl
    cases τ with
    | int k => exact ⟨_, h1 k rfl⟩
    | bool => exact ⟨_, h2 rfl⟩
    | str => exact ⟨_, h3 rfl⟩
    | unit => exact absurd rfl h5
    | slice e => obtain ⟨et, h7, _⟩ := h4 e rfl; exact ⟨_, h7⟩
    | pair a b => exact absurd rfl (h6 a b)

theorem foldl_push (l : List Int) (r : ByteArray) : l.foldl (fun (r : ByteArray) n => r.push (UInt8.ofNat n.toNat)) r = ⟨r.data ++ (l.map fun n => UInt8.ofNat n.toNat).toArray⟩ := by
  induction l generalizing r with
  | nil => simp
  | cons n l ih =>
    simp only [List.foldl_cons, ih]
    congr 1
    simp [ByteArray.push]

theorem bytes_cells (I : Inv W0 M σ a w G xs) {x : Operand} {l : List Int} {tg : List Tag} (h : σ.look x = some ⟨.slice (.int .u8), false, l, tg⟩) {w2 : World} (hc : Calm w G w2) :
    (a.eval x = .slice none 0 0 ∧ l = []) ∨ ∃ ad cap, a.eval x = .slice ad l.length cap ∧ (l = [] ∨ ∃ b off, ad = some ⟨b, off, none⟩ ∧ ∀ k (hk : k < l.length), w2.cell? ((⟨b, off, none⟩ : Addr).add k) = some (.int .u8 l[k])) := by
  obtain ⟨h1, h2⟩ := look_rel I h
  obtain ⟨t, ad, cap, _, hcs, hl, hh⟩ := h1
  rw [one_cells h2] at hcs
  have hv : a.eval x = .slice ad (List.length (α := Int) l) cap := by simpa using hcs
  right
  refine ⟨ad, cap, hv, ?_⟩
  rcases hh with ⟨_, rfl, hx, _⟩ | ⟨ho, b, off, fps, hbb, hal, hfp, _⟩ | ⟨ho, _, hx⟩
  · exact .inl hx
  · cases hfp
  · rcases hx with hx | ⟨b, off, hbb, htb, hF, he⟩
    · exact .inl hx
    · refine .inr ⟨b, off, hbb, fun k hk => ?_⟩
      obtain ⟨cs', hc', hr⟩ := he k hk
      simp only [size, Nat.mul_one] at hc' hF
      have hal : G.Al b := by
        cases t with
        | S => exact Ghost.St_Al I b htb
        | N => exact htb
        | _ => cases ho
      have := hc.1 b (cellsAt_lt hc') hal _ _ _ (by have : k < List.length (α := Int) l := hk; omega) hc'
      have h3 := cellsAt_cell this 0 (.int .u8 (List.get (α := Int) l ⟨k, hk⟩)) (by rw [hr.1]; rfl)
      have e1 : (⟨b, off + k, none⟩ : Addr).add 0 = ⟨b, off + k, none⟩ := by simp [Addr.add]
      have e2 : (⟨b, off, none⟩ : Addr).add k = ⟨b, off + k, none⟩ := by unfold Addr.add; split <;> simp_all
      rw [e1] at h3
      rw [e2]
      exact h3

theorem soft_convert (hT : TysOk P tys) (I : Inv W0 M σ a w G xs) {s t : TypeId} {x : Operand} (ho : o.op = .convert s t x) (h : softV tys σ o.op = some (g, tv)) : SoftOk P σ a w G o tv := by
  rw [ho] at h
  simp only [softV] at h
  split at h
  · cases h
  rename_i hag
  simp only [Bool.or_eq_true, not_or, Bool.not_eq_true] at hag
  split at h
  · rename_i k j k2 n _ hs ht hl
    simp only [Option.some.injEq, Prod.mk.injEq] at h
    obtain ⟨rfl, rfl⟩ := h
    have hv := look_int I hl
    refine ⟨.int j (j.wrap n), scal_rel rfl ⟨rfl, rfl, rfl⟩, fun w2 _ => ?_⟩
    rw [exec_with ho]
    simp [execOp, hv, convert, run_underlying (und_int hT hs hag.1), run_underlying (und_int hT ht hag.2), Conv.intToInt]
  · rename_i b _ hs ht hl
    simp only [Option.some.injEq, Prod.mk.injEq] at h
    obtain ⟨rfl, rfl⟩ := h
    have hv := look_str I hl
    refine ⟨.string b, scal_rel rfl ⟨rfl, rfl, rfl⟩, fun w2 _ => ?_⟩
    rw [exec_with ho]
    simp [execOp, hv, convert, run_underlying (und_str hT hs hag.1), run_underlying (und_str hT ht hag.2)]
  · rename_i l _ hs ht hl
    simp only [Option.some.injEq, Prod.mk.injEq] at h
    obtain ⟨rfl, rfl⟩ := h
    obtain ⟨et, le, hu, hea, hle⟩ := und_slice hT hs hag.1
    obtain rfl := hle rfl
    have he : P.underlying et = some (.int .u8) := ((hT et _ _ hea).und rfl).1 .u8 rfl
    refine ⟨.string (ofBytes l), scal_rel rfl ⟨rfl, rfl, rfl⟩, fun w2 hc => ?_⟩
    rw [exec_with ho]
    rcases bytes_cells I hl hc with ⟨hv, hl0⟩ | ⟨ad, cap, hv, hcs⟩
    · subst hl0
      simp [execOp, hv, convert, run_underlying hu, run_underlying (und_str hT ht hag.2), run_underlying he, Conv.bytesToString, ofBytes]
      rfl
    · rcases hcs with hl0 | ⟨b, off, rfl, hcs⟩
      · subst hl0
        cases ad with
        | none =>
          simp [execOp, hv, convert, run_underlying hu, run_underlying (und_str hT ht hag.2), run_underlying he, Conv.bytesToString, ofBytes]
          rfl
        | some ad =>
          have := run_bytesToString (P := P) w2 ad 0 cap [] (by simp [loadCells, loadCellsFrom])
          simp only [List.foldl_nil] at this
          simp [execOp, hv, convert, run_underlying hu, run_underlying (und_str hT ht hag.2), run_underlying he, this, ofBytes]
          rfl
      · have hlc := run_loadCells (P := P) w2 ⟨b, off, none⟩ l.length (fun j => .int .u8 (l.getD j 0)) (fun j hj => by
          rw [hcs j hj, List.getD_eq_getElem?_getD, List.getElem?_eq_getElem hj]; rfl)
        have hmap : ((List.range l.length).map fun j => Value.int .u8 (l.getD j 0)) = l.map (Value.int .u8) := by
          apply List.ext_getElem
          · simp
          · intro i h1 h2
            simp only [List.getElem_map, List.getElem_range]
            rw [List.getD_eq_getElem?_getD, List.getElem?_eq_getElem (by simpa using h2)]; rfl
        rw [hmap] at hlc
        have := run_bytesToString (P := P) w2 ⟨b, off, none⟩ l.length cap l hlc
        rw [foldl_push] at this
        simp [execOp, hv, convert, run_underlying hu, run_underlying (und_str hT ht hag.2), run_underlying he, this, ofBytes]
  · cases h

theorem soft_nilCheck (I : Inv W0 M σ a w G xs) {x : Operand} (ho : o.op = .nilCheck x) (h : softV tys σ o.op = some (g, tv)) : SoftAll P σ a w G o tv := by
  rw [ho] at h
  simp only [softV] at h
  have hp := peek_rel I x
  split at h
  · rename_i p hpk
    rw [hpk] at hp
    have hp := hp (by simp)
    split at h
    · rename_i hs
      simp only [Option.some.injEq, Prod.mk.injEq] at h
      obtain ⟨rfl, rfl⟩ := h
      obtain ⟨u, hu⟩ := Option.isSome_iff_exists.1 hs
      obtain ⟨cs, b, hpl, hv⟩ := hp.2.2.2.some hu
      refine ⟨a.eval x, hp, fun w2 => ?_⟩
      rw [exec_with ho]
      simp [execOp, hv]
    · cases h
  · rename_i v t hpk
    rw [hpk] at hp
    have hp := hp (by simp)
    simp only [Option.some.injEq, Prod.mk.injEq] at h
    obtain ⟨rfl, rfl⟩ := h
    have hp2 := hp
    obtain ⟨_, _, b, off, cs, hv, _⟩ := hp2
    refine ⟨a.eval x, hp, fun w2 => ?_⟩
    rw [exec_with ho]
    simp [execOp, hv]
  · rename_i p hpk
    rw [hpk] at hp
    have hp := hp (by simp)
    split at h
    · rename_i hs
      simp only [Option.some.injEq, Prod.mk.injEq] at h
      obtain ⟨rfl, rfl⟩ := h
      obtain ⟨u, hu⟩ := Option.isSome_iff_exists.1 hs
      obtain ⟨cs, b, hpl, hv⟩ := hp.2.some hu
      refine ⟨a.eval x, hp, fun w2 => ?_⟩
      rw [exec_with ho]
      simp [execOp, hv]
    · cases h
  · rename_i f ps hpk
    rw [hpk] at hp
    have hp := hp (by simp)
    simp only [Option.some.injEq, Prod.mk.injEq] at h
    obtain ⟨rfl, rfl⟩ := h
    have hp2 := hp
    obtain ⟨_, vs, hv, _⟩ := hp2
    refine ⟨a.eval x, hp, fun w2 => ?_⟩
    rw [exec_with ho]
    simp [execOp, hv]
  · rename_i r τ p hpk
    rw [hpk] at hp
    have hp := hp (by simp)
    simp only [Option.some.injEq, Prod.mk.injEq] at h
    obtain ⟨rfl, rfl⟩ := h
    have hp2 := hp
    obtain ⟨_, _, b, o2, τ2, hv, _⟩ := hp2
    refine ⟨a.eval x, hp, fun w2 => ?_⟩
    rw [exec_with ho]
    simp [execOp, hv]
  · rename_i f τs v hpk
    rw [hpk] at hp
    have hp := hp (by simp)
    simp only [Option.some.injEq, Prod.mk.injEq] at h
    obtain ⟨rfl, rfl⟩ := h
    have hp2 := hp
    obtain ⟨_, us, hv, _⟩ := hp2
    refine ⟨a.eval x, hp, fun w2 => ?_⟩
    rw [exec_with ho]
    simp [execOp, hv]
  · cases h

theorem soft_len (hT : TysOk P tys) (I : Inv W0 M σ a w G xs) {c : Call} (ho : o.op = .call c) (h : softV tys σ o.op = some (g, tv)) : SoftAll P σ a w G o tv := by
  rw [ho] at h
  simp only [softV] at h
  split at h
  · rename_i x t hcal hargs htys
    have ha : c.args = #[x] := by cases hca : c.args; rw [hca] at hargs; simp at hargs; rw [hargs]
    have hty : c.argTypes = #[t] := by cases hca : c.argTypes; rw [hca] at htys; simp at htys; rw [htys]
    split at h
    · rename_i s _ ht hl
      split at h
      · cases h
      rename_i hag
      simp only [Option.some.injEq, Prod.mk.injEq] at h
      obtain ⟨rfl, rfl⟩ := h
      have hv := look_str I hl
      refine ⟨.int .i64 s.size, scal_rel rfl ⟨rfl, rfl, rfl⟩, fun w2 => ?_⟩
      rw [exec_with ho]
      simp [execOp, resolve, hcal, ha, hty, hv, invoke, builtin, Builtin.len_, run_underlying (und_str hT ht (by simpa using hag)), goInt]
    · rename_i e0 e l _ ht hl
      split at h
      · cases h
      rename_i hag
      simp only [Option.some.injEq, Prod.mk.injEq] at h
      obtain ⟨rfl, rfl⟩ := h
      obtain ⟨ad, cap, hv, _⟩ := look_slice I hl
      obtain ⟨et, le, hu, _, _⟩ := und_slice hT ht (by simpa using hag)
      refine ⟨.int .i64 (List.length (α := El e) l), scal_rel rfl ⟨rfl, rfl, rfl⟩, fun w2 => ?_⟩
      rw [exec_with ho]
      simp [execOp, resolve, hcal, ha, hty, hv, invoke, builtin, Builtin.len_, run_underlying hu, goInt]
    · cases h
  · rename_i x y hcal hargs
    have ha : c.args = #[x, y] := by cases hca : c.args; rw [hca] at hargs; simp at hargs; rw [hargs]
    split at h
    · rename_i k m _ k2 n _ hx hy
      split at h
      · rename_i hk
        subst hk
        simp only [Option.some.injEq, Prod.mk.injEq] at h
        obtain ⟨rfl, rfl⟩ := h
        refine ⟨.int k (mxI m n), scal_rel rfl ⟨rfl, rfl, rfl⟩, fun w2 => ?_⟩
        rw [exec_with ho]
        simp [execOp, resolve, hcal, ha, look_int I hx, look_int I hy, invoke, builtin, Builtin.max_, Builtin.max2, mxI]
      · cases h
    · cases h
  · rename_i x y hcal hargs
    have ha : c.args = #[x, y] := by cases hca : c.args; rw [hca] at hargs; simp at hargs; rw [hargs]
    split at h
    · rename_i k m _ k2 n _ hx hy
      split at h
      · rename_i hk
        subst hk
        simp only [Option.some.injEq, Prod.mk.injEq] at h
        obtain ⟨rfl, rfl⟩ := h
        refine ⟨.int k (mnI m n), scal_rel rfl ⟨rfl, rfl, rfl⟩, fun w2 => ?_⟩
        rw [exec_with ho]
        simp [execOp, resolve, hcal, ha, look_int I hx, look_int I hy, invoke, builtin, Builtin.min_, Builtin.min2, mnI]
      · cases h
    · cases h
  · cases h
end
end Go.PI
namespace Go.PI

section
variable {W0 : Base} {M : Nat → Prop} {σ : State} {a : Act} {w : World} {G : Ghost} {xs : List Nat} {P : Program} {tys : List (TypeId × Ty × List TypeId)} {o : Oper} {g : Bool} {tv : TV}

theorem asInt_rel (I : Inv W0 M σ a w G xs) {x : Operand} {v : TVal} {n : Int} (h : σ.look x = some v) (hn : asInt v = some n) : ∃ k, a.eval x = .int k n := by
  unfold asInt at hn
  split at hn
  · cases hn; exact ⟨_, look_int I h⟩
  · cases hn; exact ⟨_, look_int I h⟩
  · cases hn

theorem bound_rel (I : Inv W0 M σ a w G xs) {x : Option Operand} {d n : Int} (h : bound σ x d = some n) : (x.map a.eval = none ∧ n = d) ∨ ∃ k, x.map a.eval = some (.int k n) := by
  unfold bound at h
  split at h
  · cases h; exact .inl ⟨rfl, rfl⟩
  · split at h
    · rename_i o v hl
      obtain ⟨k, hk⟩ := asInt_rel I hl h
      exact .inr ⟨k, by simp [hk]⟩
    · cases h

theorem run_bounds {b : Bool} {len cap : Nat} {lo hi : Option Value} {i j : Int} (hlo : (lo = none ∧ i = 0) ∨ ∃ k, lo = some (.int k i)) (hhi : (hi = none ∧ j = (len : Int)) ∨ ∃ k, hi = some (.int k j))
    (h0 : 0 ≤ i) (h1 : i ≤ j) (h2 : j ≤ (len : Int)) (h3 : len ≤ cap) (w2 : World) : (Instr.sliceBounds b len cap lo hi none).run P w2 = .ok (i.toNat, j.toNat, cap) w2 := by
  have hj : 0 ≤ j ∧ j ≤ (cap : Int) := by omega
  have hi' : 0 ≤ i ∧ i ≤ ((j.toNat : Nat) : Int) := by omega
  have hj2 : 0 ≤ j := by omega
  have hj3 : j ≤ (cap : Int) := by omega
  have hi2 : i ≤ ((j.toNat : Nat) : Int) := by omega
  rcases hlo with ⟨rfl, rfl⟩ | ⟨k, rfl⟩ <;> rcases hhi with ⟨rfl, rfl⟩ | ⟨k2, rfl⟩
  · simp [Instr.sliceBounds]
  · simp only [Instr.sliceBounds, Instr.sliceBound, asIntOf, Sem.run_bind, Sem.run_pure, Result.andThen_ok]
    rw [if_pos hj]
    simp
  · have : 0 ≤ i ∧ i ≤ (len : Int) := by omega
    simp only [Instr.sliceBounds, Instr.sliceBound, asIntOf, Sem.run_bind, Sem.run_pure, Result.andThen_ok]
    rw [if_pos this]
    simp
  · simp only [Instr.sliceBounds, Instr.sliceBound, asIntOf, Sem.run_bind, Sem.run_pure, Result.andThen_ok]
    rw [if_pos hj]
    simp only [Sem.run_pure, Result.andThen_ok]
    rw [if_pos hi']
    simp

theorem add_add (b o n : Nat) : (⟨b, o, none⟩ : Addr).add n = ⟨b, o + n, none⟩ := by unfold Addr.add; split <;> simp_all

theorem cutb_iff {i j : Int} {n : Nat} (h : cutb i j n = true) : 0 ≤ i ∧ i ≤ j ∧ j ≤ (n : Int) := by simpa [cutb] using h
theorem inb_iff {i : Int} {n : Nat} (h : inb i n = true) : 0 ≤ i ∧ i < (n : Int) := by simpa [inb] using h

theorem look_noOwn {x : Operand} {v : TVal} (h : σ.look x = some v) : ∀ t ∈ v.tg, t.own = false := by
  unfold State.look at h
  split at h
  · rename_i u hu
    cases h
    unfold State.peek at hu
    split at hu
    · split at hu
      · rename_i t v' hsl
        split at hu
        · cases hu
        · rename_i ho
          cases hu
          intro t ht
          cases hx : t.own with
          | false => rfl
          | true => exact absurd (List.any_eq_true.2 ⟨t, ht, hx⟩) ho
      · rename_i t h1
        exact absurd hu (h1 v)
    all_goals first | (cases hu; simp [scal]; done) | cases hu
  · rename_i p ag hu
    obtain ⟨u, _, rfl⟩ := Option.map_eq_some_iff.1 h
    intro t ht
    simp only [TVal.alias, List.mem_map] at ht
    obtain ⟨t', _, rfl⟩ := ht
    cases t' <;> rfl
  · cases h

theorem soft_slice (hT : TysOk P tys) (I : Inv W0 M σ a w G xs) {t : TypeId} {x : Operand} {lo hi mx : Option Operand} (ho : o.op = .slice t x lo hi mx) (h : softV tys σ o.op = some (g, tv)) (hg : g = true) :
    SoftAll P σ a w G o tv := by
  rw [ho] at h
  cases mx with
  | some m => simp [softV] at h
  | none =>
  simp only [softV] at h
  split at h
  · rename_i s tg ht hl
    split at h
    · cases h
    rename_i hag
    split at h
    · rename_i i j hi' hj'
      simp only [Option.some.injEq, Prod.mk.injEq] at h
      obtain ⟨hgc, rfl⟩ := h
      rw [hg] at hgc
      obtain ⟨h0, h1, h2⟩ := cutb_iff hgc
      have hv := look_str I hl
      refine ⟨.string (s.extract i.toNat j.toNat), scal_rel rfl ⟨rfl, rfl, rfl⟩, fun w2 => ?_⟩
      rw [exec_with ho]
      have hb := run_bounds (P := P) (b := false) (cap := s.size) (bound_rel I hi') (bound_rel I hj') h0 h1 h2 (Nat.le_refl _) w2
      simp only [execOp, hv, Instr.sliceAt, Instr.slice, Sem.run_bind, run_underlying (und_str hT ht (by simpa using hag)), Result.andThen_ok, Option.map_none, Option.isSome_none, Bool.false_eq_true, if_false, Sem.run_pure, hb]
    · cases h
  · rename_i e0 e l tg ht hl
    split at h
    · rename_i hc
      obtain ⟨rfl, hag⟩ := hc
      split at h
      · rename_i i j hi' hj'
        simp only [Option.some.injEq, Prod.mk.injEq] at h
        obtain ⟨hgc, rfl⟩ := h
        rw [hg] at hgc
        obtain ⟨h0, h1, h2⟩ := cutb_iff hgc
        have hr : Rp w G.F G.St G.Al (.slice e0) tg (vCells (a.eval x)) l [] := (look_rel I hl).1
        have hsh : Shaped false (a.eval x) := (look_rel I hl).2
        obtain ⟨t', ad, cap, rfl, hcs, hlc, hh⟩ := hr
        rw [one_cells hsh] at hcs
        have hv : a.eval x = .slice ad (List.length (α := El e0) l) cap := by simpa using hcs
        obtain ⟨et, le, hu, hea, _⟩ := und_slice hT ht hag
        obtain ⟨inf, z, hinf, hsz, _⟩ := (hT et _ _ hea).info
        have hlen : (sub (α := El e0) l i j).length = j.toNat - i.toNat := by
          unfold sub; simp; omega
        refine ⟨.slice (if cap = i.toNat then ad else ad.map (·.add (i.toNat * size e0))) (j.toNat - i.toNat) (cap - i.toNat), ⟨rfl, (show Rp w G.F G.St G.Al (.slice e0) [t'] _ (sub (α := El e0) l i j) [] from ?_)⟩, fun w2 => ?_⟩
        · rw [one_cells rfl]
          rw [← hlen]
          refine ⟨t', _, _, rfl, rfl, by rw [hlen]; omega, ?_⟩
          have hown : t'.own = false := by exact look_noOwn (σ := σ) hl t' (by simp)
          refine .inr (.inr ⟨hown, rfl, ?_⟩)
          rcases hh with ⟨ho, _⟩ | ⟨ho, _⟩ | ⟨_, _, hx⟩
          · rw [hown] at ho; cases ho
          · rw [hown] at ho; cases ho
          · by_cases he : j.toNat - i.toNat = 0
            · left
              exact List.length_eq_zero_iff.1 (by rw [hlen]; exact he)
            · rcases hx with hx | ⟨b, off, rfl, htb, hF, hel⟩
              · rw [hx] at h2; simp at h2; omega
              · right
                have hci : ¬ cap = i.toNat := by omega
                refine ⟨b, off + i.toNat * size e0, by rw [if_neg hci]; simp [add_add], htb, ?_, fun k hk => ?_⟩
                · rw [hlen]
                  have : i.toNat * size e0 + (j.toNat - i.toNat) * size e0 ≤ List.length (α := El e0) l * size e0 := by
                    rw [← Nat.add_mul]; exact Nat.mul_le_mul_right _ (by omega)
                  omega
                · rw [hlen] at hk
                  obtain ⟨cs', hc', hr'⟩ := hel (i.toNat + k) (by omega)
                  refine ⟨cs', ?_, ?_⟩
                  · rw [Nat.add_mul] at hc'
                    rw [Nat.add_assoc]; exact hc'
                  · have : List.get (α := El e0) (sub (α := El e0) l i j) ⟨k, by rw [hlen]; exact hk⟩ = List.get (α := El e0) l ⟨i.toNat + k, by omega⟩ := by
                      unfold sub
                      simp
                    rw [this]
                    exact hr'
        · rw [exec_with ho]
          have hb := run_bounds (P := P) (b := true) (cap := cap) (bound_rel I hi') (bound_rel I hj') h0 h1 h2 hlc w2
          simp only [execOp, hv, Instr.sliceAt, Instr.slice, Sem.run_bind, run_underlying hu, Result.andThen_ok, Option.map_none, Sem.run_pure, hb, sizeOf, typeInfo, run_program, hinf, hsz]
      · cases h
    · cases h
  · cases h
end
end Go.PI
namespace Go.PI

theorem flatB_append : (p q : List Step) → flatB (p ++ q) = (flatB p && flatB q)
  | [], q => by simp [flatB]
  | .fst :: p, q => by simp [flatB, flatB_append p q]
  | .snd :: p, q => by simp [flatB, flatB_append p q]
  | .idx _ :: p, q => by simp [flatB]

theorem flat_fieldPath : (n i : Nat) → flatB (fieldPath n i) = true
  | 0, _ => rfl
  | 1, _ => rfl
  | n + 2, 0 => rfl
  | n + 2, i + 1 => by simp only [fieldPath, flatB]; exact flat_fieldPath (n + 1) i

theorem getP_ag : {p : List Step} → {τ : Ty} → {x : El τ} → {tg : List Tag} → {u : TVal} → getP τ x tg p = some u → u.ag = false
  | [], τ, x, tg, u, h => by cases τ <;> (simp only [getP, Option.some.injEq] at h; subst h; rfl)
  | .fst :: p, .pair a b, x, tg, u, h => getP_ag (p := p) h
  | .snd :: p, .pair a b, x, tg, u, h => getP_ag (p := p) h
  | .idx i :: p, .slice e, x, tg, u, h => getP_ag (p := p) h
  | .fst :: _, .int _, _, _, _, h => by simp [getP] at h
  | .fst :: _, .bool, _, _, _, h => by simp [getP] at h
  | .fst :: _, .str, _, _, _, h => by simp [getP] at h
  | .fst :: _, .unit, _, _, _, h => by simp [getP] at h
  | .fst :: _, .slice _, _, _, _, h => by simp [getP] at h
  | .snd :: _, .int _, _, _, _, h => by simp [getP] at h
  | .snd :: _, .bool, _, _, _, h => by simp [getP] at h
  | .snd :: _, .str, _, _, _, h => by simp [getP] at h
  | .snd :: _, .unit, _, _, _, h => by simp [getP] at h
  | .snd :: _, .slice _, _, _, _, h => by simp [getP] at h
  | .idx _ :: _, .int _, _, _, _, h => by simp [getP] at h
  | .idx _ :: _, .bool, _, _, _, h => by simp [getP] at h
  | .idx _ :: _, .str, _, _, _, h => by simp [getP] at h
  | .idx _ :: _, .unit, _, _, _, h => by simp [getP] at h
  | .idx _ :: _, .pair _ _, _, _, _, h => by simp [getP] at h

theorem getP_nil {τ : Ty} {x : El τ} {tg : List Tag} : getP τ x tg [] = some ⟨τ, false, x, tg⟩ := by cases τ <;> rfl

theorem getP_append : {p q : List Step} → {τ : Ty} → {x : El τ} → {tg : List Tag} → {u : TVal} → getP τ x tg p = some u → getP τ x tg (p ++ q) = getP u.τ u.x u.tg q
  | [], q, τ, x, tg, u, h => by rw [getP_nil] at h; cases h; rfl
  | .fst :: p, q, .pair a b, x, tg, u, h => getP_append (p := p) h
  | .snd :: p, q, .pair a b, x, tg, u, h => getP_append (p := p) h
  | .idx i :: p, q, .slice e, x, tg, u, h => getP_append (p := p) h
  | .fst :: _, _, .int _, _, _, _, h => by simp [getP] at h
  | .fst :: _, _, .bool, _, _, _, h => by simp [getP] at h
  | .fst :: _, _, .str, _, _, _, h => by simp [getP] at h
  | .fst :: _, _, .unit, _, _, _, h => by simp [getP] at h
  | .fst :: _, _, .slice _, _, _, _, h => by simp [getP] at h
  | .snd :: _, _, .int _, _, _, _, h => by simp [getP] at h
  | .snd :: _, _, .bool, _, _, _, h => by simp [getP] at h
  | .snd :: _, _, .str, _, _, _, h => by simp [getP] at h
  | .snd :: _, _, .unit, _, _, _, h => by simp [getP] at h
  | .snd :: _, _, .slice _, _, _, _, h => by simp [getP] at h
  | .idx _ :: _, _, .int _, _, _, _, h => by simp [getP] at h
  | .idx _ :: _, _, .bool, _, _, _, h => by simp [getP] at h
  | .idx _ :: _, _, .str, _, _, _, h => by simp [getP] at h
  | .idx _ :: _, _, .unit, _, _, _, h => by simp [getP] at h
  | .idx _ :: _, _, .pair _ _, _, _, _, h => by simp [getP] at h

theorem locP_append {w : World} : {p q : List Step} → {τ : Ty} → {cs cs' : List Value} → {base base' : Option (Nat × Nat)} → {x : El τ} → {tg : List Tag} → {u : TVal} →
    locP w τ cs base p = some (cs', base') → getP τ x tg p = some u → locP w τ cs base (p ++ q) = locP w u.τ cs' base' q
  | [], q, τ, cs, cs', base, base', x, tg, u, hl, hg => by
    rw [getP_nil] at hg; cases hg
    rw [locP_nil] at hl; cases hl; rfl
  | .fst :: p, q, .pair a b, cs, cs', base, base', x, tg, u, hl, hg => locP_append (p := p) (τ := a) hl hg
  | .snd :: p, q, .pair a b, cs, cs', base, base', x, tg, u, hl, hg => locP_append (p := p) (τ := b) hl hg
  | .idx i :: p, q, .slice e, cs, cs', base, base', x, tg, u, hl, hg => by
    simp only [List.cons_append, locP] at hl ⊢
    split at hl
    · rename_i b o len cap
      split at hl
      · rename_i hi
        split at hl
        · rename_i cse hce
          simp only [hi, if_true]
          exact locP_append (p := p) hl hg
        · cases hl
      · cases hl
    · cases hl
  | .fst :: _, _, .int _, _, _, _, _, _, _, _, _, h => by simp [getP] at h
  | .fst :: _, _, .bool, _, _, _, _, _, _, _, _, h => by simp [getP] at h
  | .fst :: _, _, .str, _, _, _, _, _, _, _, _, h => by simp [getP] at h
  | .fst :: _, _, .unit, _, _, _, _, _, _, _, _, h => by simp [getP] at h
  | .fst :: _, _, .slice _, _, _, _, _, _, _, _, _, h => by simp [getP] at h
  | .snd :: _, _, .int _, _, _, _, _, _, _, _, _, h => by simp [getP] at h
  | .snd :: _, _, .bool, _, _, _, _, _, _, _, _, h => by simp [getP] at h
  | .snd :: _, _, .str, _, _, _, _, _, _, _, _, h => by simp [getP] at h
  | .snd :: _, _, .unit, _, _, _, _, _, _, _, _, h => by simp [getP] at h
  | .snd :: _, _, .slice _, _, _, _, _, _, _, _, _, h => by simp [getP] at h
  | .idx _ :: _, _, .int _, _, _, _, _, _, _, _, _, h => by simp [getP] at h
  | .idx _ :: _, _, .bool, _, _, _, _, _, _, _, _, h => by simp [getP] at h
  | .idx _ :: _, _, .str, _, _, _, _, _, _, _, _, h => by simp [getP] at h
  | .idx _ :: _, _, .unit, _, _, _, _, _, _, _, _, h => by simp [getP] at h
  | .idx _ :: _, _, .pair _ _, _, _, _, _, _, _, _, _, h => by simp [getP] at h

theorem tyAt_append : {p : List Step} → {τ τ1 : Ty} → tyAt τ p = some τ1 → ∀ q, tyAt τ (p ++ q) = tyAt τ1 q
  | [], τ, τ1, h, q => by rw [tyAt_nil] at h; cases h; rfl
  | .fst :: p, .pair a b, τ1, h, q => tyAt_append (p := p) (τ := a) h q
  | .snd :: p, .pair a b, τ1, h, q => tyAt_append (p := p) (τ := b) h q
  | .idx _ :: _, .pair _ _, _, h, q => by simp [tyAt] at h
  | s :: _, .int _, _, h, q => by cases s <;> simp [tyAt] at h
  | s :: _, .bool, _, h, q => by cases s <;> simp [tyAt] at h
  | s :: _, .str, _, h, q => by cases s <;> simp [tyAt] at h
  | s :: _, .unit, _, h, q => by cases s <;> simp [tyAt] at h
  | s :: _, .slice _, _, h, q => by cases s <;> simp [tyAt] at h
theorem offP_append : {p : List Step} → {τ τ1 : Ty} → tyAt τ p = some τ1 → ∀ q, offP τ (p ++ q) = offP τ p + offP τ1 q
  | [], τ, τ1, h, q => by rw [tyAt_nil] at h; cases h; rw [offP_nil]; simp
  | .fst :: p, .pair a b, τ1, h, q => offP_append (p := p) (τ := a) h q
  | .snd :: p, .pair a b, τ1, h, q => by
    have := offP_append (p := p) (τ := b) h q
    simp only [List.cons_append, offP, this, Nat.add_assoc]
  | .idx _ :: _, .pair _ _, _, h, q => by simp [tyAt] at h
  | s :: _, .int _, _, h, q => by cases s <;> simp [tyAt] at h
  | s :: _, .bool, _, h, q => by cases s <;> simp [tyAt] at h
  | s :: _, .str, _, h, q => by cases s <;> simp [tyAt] at h
  | s :: _, .unit, _, h, q => by cases s <;> simp [tyAt] at h
  | s :: _, .slice _, _, h, q => by cases s <;> simp [tyAt] at h
theorem cellsAt_part {w : World} {b o n i m : Nat} {cs : List Value} (h : cellsAt w b o n = some cs) (hm : i + m ≤ n) : cellsAt w b (o + i) m = some ((cs.drop i).take m) := by
  unfold cellsAt at *
  split at h
  · split at h
    · cases h
      rw [if_pos (by omega), List.drop_take, List.drop_drop, List.take_take]
      congr 2
      omega
    · cases h
  · cases h

theorem getP_tyAt : {q : List Step} → {τ τf : Ty} → {x : El τ} → {tg : List Tag} → tyAt τ q = some τf → ∃ u, getP τ x tg q = some u ∧ u.τ = τf
  | [], τ, τf, x, tg, h => by rw [tyAt_nil] at h; cases h; exact ⟨_, getP_nil, rfl⟩
  | .fst :: p, .pair a b, τf, x, tg, h => getP_tyAt (q := p) (τ := a) h
  | .snd :: p, .pair a b, τf, x, tg, h => getP_tyAt (q := p) (τ := b) h
  | .idx _ :: _, .int _, _, _, _, h => by simp [tyAt] at h
  | .idx _ :: _, .bool, _, _, _, h => by simp [tyAt] at h
  | .idx _ :: _, .str, _, _, _, h => by simp [tyAt] at h
  | .idx _ :: _, .unit, _, _, _, h => by simp [tyAt] at h
  | .idx _ :: _, .slice _, _, _, _, h => by simp [tyAt] at h
  | .idx _ :: _, .pair _ _, _, _, _, h => by simp [tyAt] at h
  | .fst :: _, .int _, _, _, _, h => by simp [tyAt] at h
  | .fst :: _, .bool, _, _, _, h => by simp [tyAt] at h
  | .fst :: _, .str, _, _, _, h => by simp [tyAt] at h
  | .fst :: _, .unit, _, _, _, h => by simp [tyAt] at h
  | .fst :: _, .slice _, _, _, _, h => by simp [tyAt] at h
  | .snd :: _, .int _, _, _, _, h => by simp [tyAt] at h
  | .snd :: _, .bool, _, _, _, h => by simp [tyAt] at h
  | .snd :: _, .str, _, _, _, h => by simp [tyAt] at h
  | .snd :: _, .unit, _, _, _, h => by simp [tyAt] at h
  | .snd :: _, .slice _, _, _, _, h => by simp [tyAt] at h

section
variable {W0 : Base} {M : Nat → Prop} {σ : State} {a : Act} {w : World} {G : Ghost} {xs : List Nat} {P : Program} {tys : List (TypeId × Ty × List TypeId)} {o : Oper} {g : Bool} {tv : TV}

theorem run_isAgg (hT : TysOk P tys) {t : TypeId} {τ : Ty} {l : List TypeId} (h : assoc tys t = some (τ, l)) (w2 : World) : (isAgg t).run P w2 = .ok (!l.isEmpty) w2 := by
  cases l with
  | cons c l =>
    obtain ⟨fs, hf, _⟩ := (hT t _ _ h).str (by simp)
    simp [isAgg, run_underlying hf]
  | nil =>
    obtain ⟨h1, h2, h3, h4, h5, h6⟩ := (hT t _ _ h).und rfl
    cases τ with
    | int k => simp [isAgg, run_underlying (h1 k rfl)]
    | bool => simp [isAgg, run_underlying (h2 rfl)]
    | str => simp [isAgg, run_underlying (h3 rfl)]
    | unit => exact absurd rfl h5
    | slice e => obtain ⟨et, h7, _⟩ := h4 e rfl; simp [isAgg, run_underlying h7]
    | pair a b => exact absurd rfl (h6 a b)

theorem field_info (hT : TysOk P tys) {t : TypeId} {τ : Ty} {i : Nat} {q : List Step} (hq : fieldOf tys t i = some q) (ht : tyOf tys t = some τ) :
    ∃ fs f τf lf inf, P.underlying t = some (.struct fs) ∧ fs[i]? = some f ∧ f.offset = offP τ q ∧ tyAt τ q = some τf ∧ assoc tys f.type = some (τf, lf) ∧ P.info? f.type = some inf ∧ inf.size = size τf ∧ size τf ≠ 0 ∧
      flatB q = true ∧ fieldAg tys t i = !lf.isEmpty := by
  obtain ⟨l, hta, hag⟩ := tyOf_assoc ht
  unfold fieldOf at hq
  rw [hta] at hq
  simp only [] at hq
  split at hq
  · rename_i hi
    cases hq
    have hl : l ≠ [] := by rintro rfl; simp at hi
    obtain ⟨fs, hu, hlen, hf, _⟩ := (hT t _ _ hta).str hl
    obtain ⟨f, τf, lf, h1, h2, h3, h4, h5, h6, _⟩ := (hf i hi).out
    obtain ⟨inf, z, h7, h8, _⟩ := (hT _ _ _ h5).info
    refine ⟨fs, f, τf, lf, inf, hu, h1, h3, h4, h5, h7, h8, h6, flat_fieldPath _ _, ?_⟩
    unfold fieldAg
    rw [hta]
    simp only []
    rw [← h2]
    simp [agOf, h5]
  · cases hq

theorem PlaceAt.ext {p : Place} {u : TVal} {cs cs' : List Value} {base base' : Option (Nat × Nat)} {q : List Step} (hg : σ.getAt p = some u) (h : PlaceAt σ G a w p cs base)
    (hl : locP w u.τ cs base q = some (cs', base')) : PlaceAt σ G a w { p with path := p.path ++ q } cs' base' := by
  obtain ⟨c, hc, hgp⟩ := getAt_content hg
  obtain ⟨τ, l, b, hct, hr, hlp⟩ := h
  have : τ = c.τ := by rw [State.ct, hc] at hct; simpa using hct.symm
  subst this
  refine ⟨c.τ, l, b, hct, hr, ?_⟩
  rw [locP_append hlp hgp]
  exact hl

theorem getAt_ext {p : Place} {u : TVal} {q : List Step} (hg : σ.getAt p = some u) : σ.getAt { p with path := p.path ++ q } = getP u.τ u.x u.tg q := by
  obtain ⟨c, hc, hgp⟩ := getAt_content hg
  show ((σ.content p).bind fun v => getP v.τ v.x v.tg (p.path ++ q)) = _
  rw [hc]
  exact getP_append hgp

theorem run_fieldAt (hT : TysOk P tys) {t : TypeId} {τ : Ty} {i : Nat} {q : List Step} (hq : fieldOf tys t i = some q) (ht : tyOf tys t = some τ) (b o : Nat) (w2 : World) :
    (Instr.fieldAt t (.pointer (some ⟨b, o, none⟩)) i).run P w2 = .ok (.pointer (some ⟨b, o + offP τ q, none⟩)) w2 := by
  obtain ⟨fs, f, τf, lf, inf, hu, hf, hoff, _, _, hinf, hsz, hne, _⟩ := field_info hT hq ht
  have : ¬ (inf.size = 0) := by rw [hsz]; exact hne
  simp [Instr.fieldAt, run_underlying hu, hf, Instr.sureAddr, fieldPlace, sizeOf, typeInfo, hinf, this, add_add, hoff]

theorem getP_tags : {q : List Step} → {τ : Ty} → {x : El τ} → {tg : List Tag} → {u : TVal} → getP τ x tg q = some u → flatB q = true → ∀ t ∈ u.tg, t ∈ tg
  | [], τ, x, tg, u, h, _ => by rw [getP_nil] at h; cases h; exact fun t ht => ht
  | .fst :: p, .pair a b, x, tg, u, h, hf => fun t ht => List.mem_of_mem_take (getP_tags (q := p) (τ := a) h hf t ht)
  | .snd :: p, .pair a b, x, tg, u, h, hf => fun t ht => List.mem_of_mem_drop (getP_tags (q := p) (τ := b) h hf t ht)
  | .idx _ :: _, _, _, _, _, _, hf => by simp [flatB] at hf
  | .fst :: _, .int _, _, _, _, h, _ => by simp [getP] at h
  | .fst :: _, .bool, _, _, _, h, _ => by simp [getP] at h
  | .fst :: _, .str, _, _, _, h, _ => by simp [getP] at h
  | .fst :: _, .unit, _, _, _, h, _ => by simp [getP] at h
  | .fst :: _, .slice _, _, _, _, h, _ => by simp [getP] at h
  | .snd :: _, .int _, _, _, _, h, _ => by simp [getP] at h
  | .snd :: _, .bool, _, _, _, h, _ => by simp [getP] at h
  | .snd :: _, .str, _, _, _, h, _ => by simp [getP] at h
  | .snd :: _, .unit, _, _, _, h, _ => by simp [getP] at h
  | .snd :: _, .slice _, _, _, _, h, _ => by simp [getP] at h

theorem soft_fieldAddr (hT : TysOk P tys) (I : Inv W0 M σ a w G xs) {t : TypeId} {x : Operand} {i : Nat} (ho : o.op = .fieldAddr t x i) (h : softV tys σ o.op = some (g, tv)) : SoftAll P σ a w G o tv := by
  rw [ho] at h
  simp only [softV] at h
  have hp := peek_rel I x
  split at h
  · rename_i q p hq hpk
    rw [hpk] at hp
    obtain ⟨_, hbx, hfl, hpr⟩ := hp (by simp)
    split at h
    · rename_i u hu
      split at h
      · rename_i ht
        simp only [Option.some.injEq, Prod.mk.injEq] at h
        obtain ⟨rfl, rfl⟩ := h
        obtain ⟨cs, b, hpl, hv⟩ := hpr.some hu
        obtain ⟨fs, f, τf, lf, inf, hund, hf, hoff, hat, _, hinf, hsz, hne, hqf, _⟩ := field_info hT hq ht
        obtain ⟨hlc, hle⟩ := locP_flat (w := w) (cs := cs) (base := some b) hat (place_len I hu hpl).1
        refine ⟨.pointer (some ⟨b.1, b.2 + offP u.τ q, none⟩), ⟨rfl, hbx, by simp only [flatB_append, hfl, hqf, Bool.and_self], .inr ⟨_, _, hpl.ext hu hlc, rfl⟩⟩, fun w2 => ?_⟩
        rw [exec_with ho]
        simp only [execOp, hv, Sem.run_bind, run_fieldAt hT hq ht, Result.andThen_ok, Sem.run_pure]
      · cases h
    · cases h
  · rename_i q p hq hpk
    rw [hpk] at hp
    obtain ⟨_, hpr⟩ := hp (by simp)
    split at h
    · rename_i u hu
      split at h
      · rename_i ht
        simp only [Option.some.injEq, Prod.mk.injEq] at h
        obtain ⟨rfl, rfl⟩ := h
        obtain ⟨cs, b, hpl, hv⟩ := hpr.some hu
        obtain ⟨fs, f, τf, lf, inf, hund, hf, hoff, hat, _, hinf, hsz, hne, hqf, _⟩ := field_info hT hq ht
        obtain ⟨hlc, hle⟩ := locP_flat (w := w) (cs := cs) (base := some b) hat (place_len I hu hpl).1
        refine ⟨.pointer (some ⟨b.1, b.2 + offP u.τ q, none⟩), ⟨rfl, .inr ⟨_, _, hpl.ext hu hlc, rfl⟩⟩, fun w2 => ?_⟩
        rw [exec_with ho]
        simp only [execOp, hv, Sem.run_bind, run_fieldAt hT hq ht, Result.andThen_ok, Sem.run_pure]
      · cases h
    · cases h
  · rename_i q v tg hq hpk
    rw [hpk] at hp
    obtain ⟨_, hto, b, off, cs, hv, hcell, htb, hF, hN, hr⟩ := hp (by simp)
    split at h
    · rename_i ht
      obtain ⟨u, hgu, he⟩ := Option.map_eq_some_iff.1 h
      simp only [Prod.mk.injEq] at he
      obtain ⟨rfl, rfl⟩ := he
      obtain ⟨fs, f, τf, lf, inf, hund, hf, hoff, hat, _, hinf, hsz, hne, hqf, _⟩ := field_info hT hq ht
      obtain ⟨hlc, hle⟩ := locP_flat (w := w) (cs := cs) (base := (none : Option (Nat × Nat))) hat hr.len.1
      obtain ⟨u', hu', hut⟩ := getP_tyAt (x := v.x) (tg := v.tg) hat
      rw [hgu] at hu'
      cases hu'
      obtain ⟨fp', hru, hfp⟩ := hr.get hlc hgu
      have hfp' : fp' = [] := by cases fp' with | nil => rfl | cons c l => exact absurd (hfp c (by simp)) (by simp)
      subst hfp'
      refine ⟨.pointer (some ⟨b, off + offP v.τ q, none⟩), ⟨rfl, hto, b, off + offP v.τ q, _, rfl, ?_, htb, by rw [hut]; omega, fun hn => ?_, hru⟩, fun w2 => ?_⟩
      · rw [hut]; exact cellsAt_sub hcell hle
      · have := hN hn
        intro t' ht'
        exact this t' (getP_tags hgu hqf t' ht')
      · rw [exec_with ho]
        simp only [execOp, hv, Sem.run_bind, run_fieldAt hT hq ht, Result.andThen_ok, Sem.run_pure]
    · cases h
  · rename_i q r τr p hq hpk
    rw [hpk] at hp
    obtain ⟨_, hfl, b, off, τ2, hv, hat, hlr, hcell, hSt, hF⟩ := hp (by simp)
    split at h
    · rename_i ht
      simp only [Option.some.injEq, Prod.mk.injEq] at h
      obtain ⟨rfl, rfl⟩ := h
      rw [hat] at ht
      obtain ⟨fs, f, τf, lf, inf, hund, hf, hoff, hat2, _, hinf, hsz, hne, hqf, _⟩ := field_info hT hq ht
      have hlen2 := cellsAt_len hcell
      obtain ⟨_, hle⟩ := locP_flat (w := w) (cs := ((vCells (a.tmps.getD r undef)).drop (offP τr p)).take (size τ2)) (base := none) hat2 hlen2
      refine ⟨.pointer (some ⟨b, off + offP τ2 q, none⟩), ⟨rfl, by simp only [flatB_append, hfl, hqf, Bool.and_self], b, off + offP τ2 q, τf, rfl, (tyAt_append hat q).trans hat2, hlr, ?_, hSt, by omega⟩, fun w2 => ?_⟩
      · rw [cellsAt_part hcell hle, offP_append hat q, List.drop_take, List.take_take, List.drop_drop]
        congr 2
        omega
      · rw [exec_with ho]
        simp only [execOp, hv, Sem.run_bind, run_fieldAt hT hq ht, Result.andThen_ok, Sem.run_pure]
    · cases h
  · cases h
end
end Go.PI
namespace Go.PI

theorem toList_extract_take (cs : Array Value) (i n : Nat) : (cs.extract i (i + n)).toList = (cs.toList.drop i).take n := by
  simp [Array.toList_extract, List.extract_eq_take_drop]

section
variable {W0 : Base} {M : Nat → Prop} {σ : State} {a : Act} {w : World} {G : Ghost} {xs : List Nat} {P : Program} {tys : List (TypeId × Ty × List TypeId)} {o : Oper} {g : Bool} {tv : TV}

theorem size_nostruct (hT : TysOk P tys) {t : TypeId} {τ : Ty} (h : assoc tys t = some (τ, [])) : size τ = 1 := by
  obtain ⟨_, _, _, _, h5, h6⟩ := (hT t _ _ h).und rfl
  cases τ <;> first | rfl | (exact absurd rfl h5) | (exact absurd rfl (h6 _ _))

theorem run_part (hT : TysOk P tys) {t : TypeId} {τ : Ty} {l : List TypeId} (h : assoc tys t = some (τ, l)) {cs : Array Value} {off : Nat} (hl : off + size τ ≤ cs.size) (w2 : World) :
    (part t cs off).run P w2 = .ok (gathered (!l.isEmpty) ((cs.toList.drop off).take (size τ))) w2 := by
  obtain ⟨inf, z, hi, hs, _⟩ := (hT t _ _ h).info
  cases l with
  | cons c l =>
    simp only [part, Sem.run_bind, run_isAgg hT h, Result.andThen_ok, List.isEmpty_cons, Bool.not_false, if_true, sizeOf, typeInfo, run_program, hi, Sem.run_pure, hs, gathered]
    congr 2
    rw [← Array.toList_inj]
    simp [toList_extract_take]
  | nil =>
    have h1 := size_nostruct hT h
    simp only [part, Sem.run_bind, run_isAgg hT h, Result.andThen_ok, List.isEmpty_nil, Bool.not_true, Bool.false_eq_true, if_false, gathered]
    have : off < cs.size := by omega
    rw [Array.getElem?_eq_getElem this]
    simp only [Sem.run_pure]
    congr 1
    rw [h1]
    have h2 : off < cs.toList.length := by simpa using this
    rw [List.drop_eq_getElem_cons h2]
    simp

theorem soft_field (hT : TysOk P tys) (I : Inv W0 M σ a w G xs) {t : TypeId} {x : Operand} {i : Nat} (ho : o.op = .field t x i) (h : softV tys σ o.op = some (g, tv)) : SoftAll P σ a w G o tv := by
  rw [ho] at h
  simp only [softV] at h
  have hp := peek_rel I x
  split at h
  · rename_i q p hq hpk
    rw [hpk] at hp
    obtain ⟨_, hpl⟩ := hp (by simp)
    split at h
    · rename_i u hu
      split at h
      · rename_i ht
        obtain ⟨tv', hrt, he⟩ := Option.map_eq_some_iff.1 h
        simp only [Prod.mk.injEq] at he
        obtain ⟨rfl, rfl⟩ := he
        have hpl : ∃ cs base, PlaceAt σ G a w p cs base ∧ vCells (a.eval x) = cs ∧ Shaped true (a.eval x) := by
          rcases hpl with hn | hpl
          · obtain ⟨c, hc, _⟩ := getAt_content hu
            rw [State.ct, hc] at hn; cases hn
          · exact hpl
        obtain ⟨cs, base, hpl, hvc, arr, hv⟩ := hpl
        obtain ⟨fs, f, τf, lf, inf, hund, hf, hoff, hat, hfa, hinf, hsz, hne, hqf, hfag⟩ := field_info hT hq ht
        obtain ⟨hlen, hone⟩ := place_len I hu hpl
        obtain ⟨hlc, hle⟩ := locP_flat (w := w) (cs := cs) (base := base) hat hlen
        have hcs : cs = arr.toList := by rw [← hvc, hv]; simp [vCells, Value.cells]
        have hasz : arr.size = size u.τ := by rw [← hlen, hcs]; simp
        have hgo := gathered_ok (ag := fieldAg tys t i) (cs := (cs.drop (offP u.τ q)).take (size τf)) (fun c hc => hone c (List.mem_of_mem_drop (List.mem_of_mem_take hc))) (fun hf => by
          rw [hfag] at hf
          have hl : lf = [] := by simpa using hf
          subst hl
          have := size_nostruct hT hfa
          simp; omega)
        refine ⟨gathered (fieldAg tys t i) ((cs.drop (offP u.τ q)).take (size τf)), refTo_rel I hrt (hpl.ext hu hlc) hgo.1 hgo.2, fun w2 => ?_⟩
        rw [exec_with ho]
        simp only [execOp, hv, Instr.field, Sem.run_bind, run_underlying hund, hf, asAgg, Sem.run_pure, Result.andThen_ok, hoff, run_part hT hfa (cs := arr) (off := offP u.τ q) (by omega) w2, hfag, hcs]
      · cases h
    · cases h
  · rename_i q τ y tg hq hpk
    rw [hpk] at hp
    obtain ⟨⟨arr, hv⟩, hr⟩ := hp (by simp)
    split at h
    · rename_i ht
      obtain ⟨u, hgu, he⟩ := Option.map_eq_some_iff.1 h
      simp only [Prod.mk.injEq] at he
      obtain ⟨rfl, rfl⟩ := he
      obtain ⟨fs, f, τf, lf, inf, hund, hf, hoff, hat, hfa, hinf, hsz, hne, hqf, hfag⟩ := field_info hT hq ht
      have hcs : vCells (a.eval x) = arr.toList := by rw [hv]; simp [vCells, Value.cells]
      rw [hcs] at hr
      obtain ⟨hlc, hle⟩ := locP_flat (w := w) (cs := arr.toList) (base := (none : Option (Nat × Nat))) hat hr.len.1
      obtain ⟨u', hu', hut⟩ := getP_tyAt (x := y) (tg := tg) hat
      rw [hgu] at hu'
      cases hu'
      obtain ⟨fp', hru, hfp⟩ := hr.get hlc hgu
      have hfp' : fp' = [] := by cases fp' with | nil => rfl | cons c l => exact absurd (hfp c (by simp)) (by simp)
      subst hfp'
      have hasz : arr.size = size τ := by have := hr.len.1; simpa using this
      have hgo := gathered_ok (ag := fieldAg tys t i) (cs := (arr.toList.drop (offP τ q)).take (size τf)) hru.ones (fun hf => by
          rw [hfag] at hf
          have hl : lf = [] := by simpa using hf
          subst hl
          have := size_nostruct hT hfa
          simp; omega)
      refine ⟨gathered (fieldAg tys t i) ((arr.toList.drop (offP τ q)).take (size τf)), ⟨hgo.2, by rw [hgo.1]; exact hru⟩, fun w2 => ?_⟩
      rw [exec_with ho]
      simp only [execOp, hv, Instr.field, Sem.run_bind, run_underlying hund, hf, asAgg, Sem.run_pure, Result.andThen_ok, hoff, run_part hT hfa (cs := arr) (off := offP τ q) (by omega) w2, hfag]
    · cases h
  · cases h

theorem run_indexAt (hT : TysOk P tys) {t : TypeId} {e : Ty} (ht : tyOf tys t = some (.slice e)) (hag : agOf tys t = false) {b off len cap : Nat} {k : IntKind} {n : Int} (h : inb n len = true) (w2 : World) :
    (Instr.indexAt t (.slice (some ⟨b, off, none⟩) len cap) (.int k n)).run P w2 = .ok (.pointer (some ⟨b, off + n.toNat * size e, none⟩)) w2 := by
  obtain ⟨et, le, hu, hea, _⟩ := und_slice hT ht hag
  obtain ⟨inf, z, hinf, hsz, _⟩ := (hT et _ _ hea).info
  simp only [Instr.indexAt, asIntOf, Sem.run_bind, Sem.run_pure, Result.andThen_ok, run_underlying hu, if_pos (inb_iff h), sizeOf, typeInfo, run_program, hinf, hsz, add_add]

theorem soft_indexAddr (hT : TysOk P tys) (I : Inv W0 M σ a w G xs) {t : TypeId} {x i : Operand} (ho : o.op = .indexAddr t x i) (h : softV tys σ o.op = some (g, tv)) (hg : g = true) : SoftAll P σ a w G o tv := by
  rw [ho] at h
  simp only [softV] at h
  have hp := peek_rel I x
  split at h
  · rename_i e' p nv ht hpk hli
    rw [hpk] at hp
    obtain ⟨_, hpl⟩ := hp (by simp)
    split at h
    · rename_i e ag' l tg n hu hn
      split at h
      · rename_i hc
        obtain ⟨rfl, hag⟩ := hc
        simp only [Option.some.injEq, Prod.mk.injEq] at h
        obtain ⟨hgi, rfl⟩ := h
        rw [hg] at hgi
        obtain ⟨h0, h1⟩ := inb_iff hgi
        have hpl : ∃ cs base, PlaceAt σ G a w p cs base ∧ vCells (a.eval x) = cs ∧ Shaped false (a.eval x) := by
          rcases hpl with hn | hpl
          · obtain ⟨c, hc, _⟩ := getAt_content hu
            rw [State.ct, hc] at hn; cases hn
          · exact hpl
        obtain ⟨cs, base, hpl, hvc, hsh⟩ := hpl
        obtain ⟨fp, hr⟩ := place_rp I hu hpl
        have hr : Rp w G.F G.St G.Al (.slice e') tg cs l fp := hr
        obtain ⟨t', ad, cap, rfl, hcs, hlc, hh⟩ := hr
        have hv : a.eval x = .slice ad (List.length (α := El e') l) cap := by
          rw [one_cells hsh] at hvc
          rw [hcs] at hvc
          simpa using hvc
        obtain ⟨k, hk⟩ := asInt_rel I hli hn
        have hnl : n.toNat < List.length (α := El e') l := by omega
        have hex : ∃ b off, ad = some ⟨b, off, none⟩ ∧ ∃ cs', cellsAt w b (off + n.toNat * size e') (size e') = some cs' := by
          rcases hh with ⟨_, _, hx, _⟩ | ⟨_, b, off, fps, rfl, _, _, _, _, _, hel⟩ | ⟨_, _, hx⟩
          · rw [hx] at hnl; simp at hnl
          · obtain ⟨cs', hc', _⟩ := hel n.toNat hnl
            exact ⟨b, off, rfl, cs', hc'⟩
          · rcases hx with hx | ⟨b, off, rfl, _, _, hel⟩
            · rw [hx] at hnl; simp at hnl
            · obtain ⟨cs', hc', _⟩ := hel n.toNat hnl
              exact ⟨b, off, rfl, cs', hc'⟩
        obtain ⟨b, off, rfl, cs', hc'⟩ := hex
        refine ⟨.pointer (some ⟨b, off + n.toNat * size e', none⟩), ⟨rfl, .inr ⟨cs', (b, off + n.toNat * size e'), hpl.ext hu ?_, rfl⟩⟩, fun w2 => ?_⟩
        · rw [hcs]
          simp only [locP, hnl, if_true, hc', locP_nil]
        · rw [exec_with ho]
          simp only [execOp, hv, hk, Sem.run_bind, run_indexAt hT ht hag hgi, Result.andThen_ok, Sem.run_pure]
      · cases h
    · cases h
  · rename_i e' e l tg nv ht hpk hli
    rw [hpk] at hp
    split at h
    · rename_i n hn
      split at h
      · rename_i hc
        obtain ⟨rfl, hag⟩ := hc
        simp only [Option.some.injEq, Prod.mk.injEq] at h
        obtain ⟨hgi, rfl⟩ := h
        rw [hg] at hgi
        obtain ⟨h0, h1⟩ := inb_iff hgi
        obtain ⟨hsh, hr⟩ := hp (by simp)
        have hr : Rp w G.F G.St G.Al (.slice e') tg (vCells (a.eval x)) l [] := hr
        obtain ⟨t', ad, cap, rfl, hcs, hlc, hh⟩ := hr
        have hv : a.eval x = .slice ad (List.length (α := El e') l) cap := by
          have hsh : Shaped false (a.eval x) := hsh
          rw [one_cells hsh] at hcs
          simpa using hcs
        obtain ⟨k, hk⟩ := asInt_rel I hli hn
        have hnl : n.toNat < List.length (α := El e') l := by omega
        rcases hh with ⟨_, _, hx, _⟩ | ⟨_, b, off, fps, _, _, hx, _⟩ | ⟨hown, _, hx⟩
        · rw [hx] at hnl; simp at hnl
        · cases hx
        · rcases hx with hx | ⟨b, off, rfl, htb, hF, hel⟩
          · rw [hx] at hnl; simp at hnl
          · obtain ⟨cs', hc', hrl⟩ := hel n.toNat hnl
            refine ⟨.pointer (some ⟨b, off + n.toNat * size e', none⟩), ⟨rfl, hown, b, off + n.toNat * size e', cs', rfl, hc', htb, ?_, ?_, ?_⟩, fun w2 => ?_⟩
            · have : (n.toNat + 1) * size e' ≤ List.length (α := El e') l * size e' := Nat.mul_le_mul_right _ hnl
              rw [Nat.add_mul, Nat.one_mul] at this
              show off + n.toNat * size e' + size e' ≤ _
              omega
            · intro hN t2 ht2
              obtain ⟨_, rfl⟩ := List.mem_replicate.1 ht2
              simp only [List.headD_cons] at hN ⊢
              cases t' <;> simp_all [Tag.isN, Tag.inner, Tag.own]
            · have : List.getD (α := El e') l n.toNat (zero e') = List.get (α := El e') l ⟨n.toNat, hnl⟩ := getD_lt _ _ _ _
              show Rp w G.F G.St G.Al e' _ cs' (List.getD (α := El e') l n.toNat (zero e')) []
              rw [this]
              exact hrl
            · rw [exec_with ho]
              simp only [execOp, hv, hk, Sem.run_bind, run_indexAt hT ht hag hgi, Result.andThen_ok, Sem.run_pure]
      · cases h
    · cases h
  · cases h

theorem soft_index (hT : TysOk P tys) (I : Inv W0 M σ a w G xs) {t : TypeId} {x i : Operand} (ho : o.op = .index t x i) (h : softV tys σ o.op = some (g, tv)) (hg : g = true) : SoftAll P σ a w G o tv := by
  rw [ho] at h
  simp only [softV] at h
  split at h
  · rename_i s tg nv ht hl hli
    split at h
    · rename_i n hn
      split at h
      · cases h
      rename_i hag
      simp only [Option.some.injEq, Prod.mk.injEq] at h
      obtain ⟨hgi, rfl⟩ := h
      rw [hg] at hgi
      obtain ⟨h0, h1⟩ := inb_iff hgi
      obtain ⟨k, hk⟩ := asInt_rel I hli hn
      have hv := look_str I hl
      refine ⟨.int .u8 (bt s n), scal_rel rfl ⟨rfl, rfl, rfl⟩, fun w2 => ?_⟩
      rw [exec_with ho]
      have hlt : n.toNat < s.size := by omega
      have hget : s[n.toNat]? = some s[n.toNat] := by simp [hlt]
      simp only [execOp, hv, hk, Instr.index, asIntOf, Sem.run_bind, Sem.run_pure, Result.andThen_ok, run_underlying (und_str hT ht (by simpa using hag)), if_pos h0, hget]
      congr 3
      unfold bt
      congr 1
      have : n.toNat < s.data.toList.length := by simpa using hlt
      rw [getD_lt _ _ _ this]
      rfl
    · cases h
  · cases h

theorem tup_shape : {ags : List Bool} → {τ : Ty} → {vs : List Value} → {i : Nat} → {F : Nat → Nat} → {St Al : Nat → Prop} → {w : World} → {x : El τ} → {tg : List Tag} → {fp : List Nat} → TupShape τ ags vs → i < ags.length →
    ∃ v, vs[i]? = some v ∧ Shaped (getN false ags i) v ∧ ∃ base', locP w τ (vs.flatMap vCells) none (fieldPath ags.length i) = some (vCells v, base')
  | [], τ, vs, i, _, _, _, w, _, _, _, h, hi => by simp at hi
  | [ag], τ, vs, i, _, _, _, w, _, _, _, h, hi => by
    have : i = 0 := by simpa using hi
    subst this
    match vs, h with
    | [v], h => 
      have h : Shaped ag v ∧ (vCells v).length = size τ := by cases τ <;> exact h
      exact ⟨v, rfl, h.1, none, by simp [fieldPath, locP_nil]⟩
    | [], h => cases τ <;> exact h.elim
    | _ :: _ :: _, h => cases τ <;> exact h.elim
  | ag :: ag' :: ags, τ, vs, i, F, St, Al, w, x, tg, fp, h, hi => by
    cases τ with
    | pair a b =>
      cases vs with
      | nil => exact h.elim
      | cons v vs =>
      obtain ⟨h1, h2, h3⟩ : Shaped ag v ∧ (vCells v).length = size a ∧ TupShape b (ag' :: ags) vs := by
        cases vs <;> exact h
      cases i with
      | zero =>
        refine ⟨v, rfl, h1, none, ?_⟩
        simp only [List.length_cons, fieldPath, locP, List.flatMap_cons, locP_nil]
        rw [← h2, List.take_left']
        rfl
      | succ i =>
        obtain ⟨v', h4, h5, base', h6⟩ := tup_shape (w := w) (x := zero b) (tg := []) (fp := []) (F := F) (St := St) (Al := Al) h3 (i := i) (by simpa using hi)
        refine ⟨v', by simpa using h4, h5, base', ?_⟩
        simp only [List.length_cons, fieldPath, locP, List.flatMap_cons, Option.map_none]
        rw [← h2, List.drop_left']
        · exact h6
        · rfl
    | _ => exact h.elim

theorem TupShape.ones : {ags : List Bool} → {τ : Ty} → {vs : List Value} → TupShape τ ags vs → ∀ v ∈ vs, vCells v = v.cells.toList
  | [], τ, vs, h => by cases τ <;> cases vs <;> exact h.elim
  | [ag], τ, vs, h => by
    match vs, h with
    | [v], h => 
      have h : Shaped ag v ∧ (vCells v).length = size τ := by cases τ <;> exact h
      intro u hu
      simp only [List.mem_singleton] at hu
      subst hu
      exact h.1.cells
    | [], h => cases τ <;> exact h.elim
    | _ :: _ :: _, h => cases τ <;> exact h.elim
  | ag :: ag' :: ags, τ, vs, h => by
    cases τ with
    | pair a b =>
      cases vs with
      | nil => exact h.elim
      | cons v vs =>
      obtain ⟨h1, h2, h3⟩ : Shaped ag v ∧ (vCells v).length = size a ∧ TupShape b (ag' :: ags) vs := by
        cases vs <;> exact h
      intro u hu
      rcases List.mem_cons.1 hu with rfl | hu
      · exact h1.cells
      · exact TupShape.ones h3 u hu
    | _ => exact h.elim

theorem slot_lt {i : Nat} (h : σ.slot i ≠ .dead) : i < σ.slots.length := by
  rcases Nat.lt_or_ge i σ.slots.length with h1 | h1
  · exact h1
  · exact absurd (getN_ge (d := TV.dead) σ.slots i h1) h

theorem soft_extract (I : Inv W0 M σ a w G xs) {x : Operand} {i : Nat} (ho : o.op = .extract x i) (h : softV tys σ o.op = some (g, tv)) : SoftAll P σ a w G o tv := by
  rw [ho] at h
  cases x with
  | tmp t =>
    have main : ∀ {t' : Nat} {ags : List Bool} {v : TVal}, σ.content ⟨false, t', []⟩ = some v → rootLoc G a w ⟨false, t', []⟩ = some (vCells (a.tmps.getD t undef), none) → (∃ vs, a.tmps.getD t undef = .tuple vs ∧ TupShape v.τ ags vs.toList) →
        (if i < ags.length then (refTo σ ⟨false, t', fieldPath ags.length i⟩ (getN false ags i)).map fun tv => (true, tv) else none) = some (g, tv) → SoftAll P σ a w G o tv := by
      intro t' ags v hcon hroot hs h
      split at h
      · rename_i hi
        obtain ⟨tv', hrt, he⟩ := Option.map_eq_some_iff.1 h
        simp only [Prod.mk.injEq] at he
        obtain ⟨rfl, rfl⟩ := he
        obtain ⟨vs, hv, hsh⟩ := hs
        obtain ⟨u, h1, h2, base', h3⟩ := tup_shape (w := w) (x := v.x) (tg := v.tg) (fp := []) (F := G.F) (St := G.St) (Al := G.Al) hsh hi
        have hvc : vCells (a.tmps.getD t undef) = vs.toList.flatMap vCells := by
          rw [hv]
          simp only [vCells]
          have := hsh.ones
          generalize vs.toList = L at this
          induction L with
          | nil => rfl
          | cons y L ih =>
            simp only [List.flatMap_cons]
            rw [ih (fun z hz => this z (List.mem_cons_of_mem _ hz)), this y (by simp)]
        refine ⟨u, refTo_rel I hrt (cs := vCells u) (base := base') ⟨v.τ, vCells (a.tmps.getD t undef), none, ?_, hroot, ?_⟩ rfl h2, fun w2 => ?_⟩
        · show (σ.content ⟨false, t', []⟩).map (·.τ) = _
          rw [hcon]; rfl
        · rw [hvc]; exact h3
        · rw [exec_with ho]
          have hev : a.eval (.tmp t) = .tuple vs := hv
          have h1' : vs[i]? = some u := by rw [← h1]; simp
          simp only [execOp, hev, Instr.extract, h1', Sem.run_bind, Sem.run_pure, Result.andThen_ok]
      · cases h
    simp only [softV] at h
    split at h
    · rename_i v ags hsl
      have hs := I.slot t (slot_lt (by rw [hsl]; simp))
      rw [hsl] at hs
      exact main (v := v) (by simp [State.content, hsl]) rfl hs.1 h
    · rename_i t' ags hsl
      have hs := I.slot t (slot_lt (by rw [hsl]; simp))
      rw [hsl] at hs
      have hc : ∃ v, σ.content ⟨false, t', []⟩ = some v := by
        split at h
        · obtain ⟨tv', hrt, _⟩ := Option.map_eq_some_iff.1 h
          unfold refTo at hrt
          split at hrt
          · rename_i u hu
            unfold State.getAt at hu
            obtain ⟨v, hv, _⟩ := Option.bind_eq_some_iff.1 hu
            exact ⟨v, hv⟩
          · cases hrt
        · cases h
      obtain ⟨v, hv⟩ := hc
      obtain ⟨h1, vs, h2, h3⟩ := hs.2 v.τ (by show (σ.content ⟨false, t', []⟩).map (·.τ) = _; rw [hv]; rfl)
      exact main hv h1 ⟨vs, h2, h3⟩ h
    · cases h
  | _ => simp [softV] at h

theorem caps_rel (I : Inv W0 M σ a w G xs) : (caps : List Operand) → {l : List Place} → (caps.map σ.peek).foldr (fun tv acc => match tv, acc with | .ptr p, some l => some (p :: l) | _, _ => none) (some []) = some l →
    caps.length = l.length ∧ ∀ i (h : i < l.length), l[i].box = true ∧ flatB l[i].path = true ∧ PtrRel σ G a w l[i] ((caps.map a.eval).getD i undef)
  | [], l, h => by
    simp only [List.map_nil, List.foldr_nil, Option.some.injEq] at h
    subst h
    exact ⟨rfl, fun i hi => absurd hi (by simp)⟩
  | c :: caps, l, h => by
    simp only [List.map_cons, List.foldr_cons] at h
    split at h
    · rename_i p l' hpk hrest
      cases h
      obtain ⟨h1, h2⟩ := caps_rel I caps hrest
      have hp := peek_rel I c (by rw [hpk]; simp)
      rw [hpk] at hp
      refine ⟨by simp [h1], fun i hi => ?_⟩
      cases i with
      | zero => exact hp.2
      | succ i => exact h2 i (by simpa using hi)
    · cases h

theorem soft_makeFunc (I : Inv W0 M σ a w G xs) {f : Fn} {first caps : Array Operand} (ho : o.op = .makeFunc f first caps) (h : softV tys σ o.op = some (g, tv)) : SoftAll P σ a w G o tv := by
  rw [ho] at h
  cases f with
  | func f =>
    simp only [softV] at h
    split at h
    · rename_i hfe
      split at h
      · rename_i l hl
        simp only [Option.some.injEq, Prod.mk.injEq] at h
        obtain ⟨rfl, rfl⟩ := h
        obtain ⟨h1, h2⟩ := caps_rel I _ hl
        have hfirst : first = #[] := by simpa using hfe
        refine ⟨.func (.func f) #[] (caps.map a.eval), ⟨rfl, caps.map a.eval, rfl, by simpa using h1, fun i hi => ?_⟩, fun w2 => ?_⟩
        · have := h2 i hi
          have heq : (caps.map a.eval).getD i undef = (caps.toList.map a.eval).getD i undef := by
            rw [← Array.toList_map, Array.getD_eq_getD_getElem?, List.getD_eq_getElem?_getD, Array.getElem?_toList]
          rw [heq]; exact this
        · rw [exec_with ho]
          simp only [execOp, hfirst, Instr.makeFunc, Sem.run_bind, Sem.run_pure, Result.andThen_ok]
          simp
      · cases h
    · cases h
  | _ => simp [softV] at h

end
end Go.PI
