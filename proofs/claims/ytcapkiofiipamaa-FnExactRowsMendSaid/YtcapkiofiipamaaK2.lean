/-
  What the exact laws do with an argument: its measure, its copy, its marks; for all kinds at once. Lemmas; no conditions.
-/
import Derived.Test.YtcapkiofiipamaaK1
set_option linter.unusedVariables false
namespace Go.PI.G
open Go Go.PI

/-- How much a value holds. -/
def msr : (τ : Ty) → El τ → Nat
  | .str, s => ByteArray.size s
  | .slice e, l => List.length (α := El e) l + (List.map (msr e) l).sum
  | .pair a b, x => msr a x.1 + msr b x.2
  | .int _, _ => 0
  | .bool, _ => 0
  | .unit, _ => 0
/-- How many marks it takes where it stands in a row; where it is given by value. -/
def wgt : (τ : Ty) → El τ → Nat
  | .str, _ => 1
  | .slice e, l => (List.map (wgt e) l).sum
  | .pair a b, x => wgt a x.1 + wgt b x.2
  | .int _, _ => 1
  | .bool, _ => 1
  | .unit, _ => 0
def wgtT : (τ : Ty) → El τ → Nat
  | .slice e, l => (List.map (wgt e) l).sum
  | .pair a b, x => wgtT a x.1 + wgtT b x.2
  | .str, _ => 0
  | .int _, _ => 0
  | .bool, _ => 0
  | .unit, _ => 0
def width : Ty → Nat
  | .slice e => width e
  | .pair a b => width a + width b
  | .unit => 0
  | _ => 1

theorem sum_le_mul {α : Type} (f g : α → Nat) (c : Nat) (h : ∀ x, f x ≤ (g x + 1) * c) : (l : List α) → (l.map f).sum ≤ (l.length + (l.map g).sum) * c
  | [] => by simp
  | x :: l => by
    have h1 := h x
    have h2 := sum_le_mul f g c h l
    simp only [List.map_cons, List.sum_cons, List.length_cons]
    have : (l.length + 1 + (g x + (l.map g).sum)) * c = (g x + 1) * c + (l.length + (l.map g).sum) * c := by
      rw [← Nat.add_mul]; congr 1; omega
    omega
theorem wgt_le : (τ : Ty) → (x : El τ) → wgt τ x ≤ (msr τ x + 1) * width τ
  | .str, _ => by simp [wgt, width]
  | .int _, _ => by simp [wgt, width]
  | .bool, _ => by simp [wgt, width]
  | .unit, _ => by simp [wgt]
  | .pair a b, x => by
    have h1 := wgt_le a x.1
    have h2 := wgt_le b x.2
    simp only [wgt, msr, width, Nat.mul_add]
    have e1 : (msr a x.1 + 1) * width a ≤ (msr a x.1 + msr b x.2 + 1) * width a := Nat.mul_le_mul_right _ (by omega)
    have e2 : (msr b x.2 + 1) * width b ≤ (msr a x.1 + msr b x.2 + 1) * width b := Nat.mul_le_mul_right _ (by omega)
    omega
  | .slice e, l => by
    have h1 := sum_le_mul (wgt e) (msr e) (width e) (wgt_le e) l
    simp only [wgt, msr, width]
    have e1 : (List.length (α := El e) l + (List.map (msr e) l).sum) * width e ≤ (List.length (α := El e) l + (List.map (msr e) l).sum + 1) * width e := Nat.mul_le_mul_right _ (by omega)
    exact Nat.le_trans h1 e1
theorem wgtT_le_wgt : (τ : Ty) → (x : El τ) → wgtT τ x ≤ wgt τ x
  | .str, _ => Nat.zero_le _
  | .int _, _ => Nat.zero_le _
  | .bool, _ => Nat.zero_le _
  | .unit, _ => Nat.le_refl _
  | .pair a b, x => Nat.add_le_add (wgtT_le_wgt a x.1) (wgtT_le_wgt b x.2)
  | .slice e, l => Nat.le_refl _

/-! ### marks -/
def dgt (x : Int) : ByteArray := ofBytes [wu8 (wi64 (48 + x))]
theorem dgt_size (x : Int) : (dgt x).size = 1 := rfl
def digt (n : Nat) : ByteArray := if h : n < 10 then dgt n else digt (n / 10) ++ dgt ((n % 10 : Nat) : Int)
termination_by n
decreasing_by omega
/-- The text of a mark. -/
def mT (k : Int) : ByteArray := (⟨#[109]⟩ : ByteArray) ++ digt k.toNat
def mk : (τ : Ty) → El τ → Int → El τ
  | .str, _, k => mT k
  | .slice e, l, k => mkL (wgt e) (mk e) l k
  | .pair a b, x, k => (mk a x.1 k, mk b x.2 (k + (wgt a x.1 : Int)))
  | .int .u8, _, k => wu8 k
  | .int _, _, k => k
  | .bool, _, k => (Int.tmod k 3 == 0)
  | .unit, x, _ => x
def mkT : (τ : Ty) → El τ → Int → El τ
  | .slice e, l, k => mkL (wgt e) (mk e) l k
  | .pair a b, x, k => (mkT a x.1 k, mkT b x.2 (k + (wgtT a x.1 : Int)))
  | .str, x, _ => x
  | .int _, x, _ => x
  | .bool, x, _ => x
  | .unit, x, _ => x

theorem msr_slice (e : Ty) (l : List (El e)) : msr (.slice e) l = l.length + (l.map (msr e)).sum := rfl
theorem msr_len {e : Ty} {l : List (El e)} {n : Nat} (h : msr (.slice e) l ≤ n) : l.length ≤ n := by
  have : msr (.slice e) l = l.length + (l.map (msr e)).sum := rfl
  omega
theorem msr_mem {e : Ty} {l : List (El e)} {n : Nat} (h : msr (.slice e) l ≤ n) {x : El e} (hx : x ∈ l) : msr e x ≤ n := by
  have h1 : msr (.slice e) l = l.length + (l.map (msr e)).sum := rfl
  have := le_sum (msr e) l x hx
  omega
/-- A small value: all its marks are numbers without trouble. -/
theorem wgt_small {τ : Ty} {x : El τ} (hw : width τ ≤ 200) (h : msr τ x ≤ 1048576) : wgt τ x ≤ 209715400 := by
  have h1 := wgt_le τ x
  have h2 : (msr τ x + 1) * width τ ≤ 1048577 * 200 := Nat.mul_le_mul (by omega) hw
  omega
theorem wgt_slice (e : Ty) (l : List (El e)) : wgt (.slice e) l = (l.map (wgt e)).sum := rfl
theorem wgt_pair (a b : Ty) (x : El (.pair a b)) : wgt (.pair a b) x = wgt a x.1 + wgt b x.2 := rfl
theorem wgt_int (k : IntKind) (x : El (.int k)) : wgt (.int k) x = 1 := rfl
theorem wgt_bool (x : El .bool) : wgt .bool x = 1 := rfl
theorem wgt_str (x : El .str) : wgt .str x = 1 := rfl
theorem mk_pair (a b : Ty) (x : El (.pair a b)) (k : Int) : mk (.pair a b) x k = (mk a x.1 k, mk b x.2 (k + (wgt a x.1 : Int))) := rfl
theorem mk_slice (e : Ty) (l : El (.slice e)) (k : Int) : mk (.slice e) l k = mkL (wgt e) (mk e) l k := rfl
theorem mk_i64 (x : El (.int .i64)) (k : Int) : mk (.int .i64) x k = k := rfl
theorem mk_u8 (x : El (.int .u8)) (k : Int) : mk (.int .u8) x k = wu8 k := rfl
theorem mk_bool (x : El .bool) (k : Int) : mk .bool x k = (Int.tmod k 3 == 0) := rfl
theorem mk_str (x : El .str) (k : Int) : mk .str x k = mT k := rfl
theorem mkT_pair (a b : Ty) (x : El (.pair a b)) (k : Int) : mkT (.pair a b) x k = (mkT a x.1 k, mkT b x.2 (k + (wgtT a x.1 : Int))) := rfl
theorem mkT_slice (e : Ty) (l : El (.slice e)) (k : Int) : mkT (.slice e) l k = mkL (wgt e) (mk e) l k := rfl
theorem mkT_int (i : IntKind) (x : El (.int i)) (k : Int) : mkT (.int i) x k = x := rfl
theorem mkT_bool (x : El .bool) (k : Int) : mkT .bool x k = x := rfl
theorem mkT_str (x : El .str) (k : Int) : mkT .str x k = x := rfl
theorem wgtT_pair (a b : Ty) (x : El (.pair a b)) : wgtT (.pair a b) x = wgtT a x.1 + wgtT b x.2 := rfl
theorem wgtT_slice (e : Ty) (l : El (.slice e)) : wgtT (.slice e) l = wgt (.slice e) l := rfl
theorem wgtT_int (i : IntKind) (x : El (.int i)) : wgtT (.int i) x = 0 := rfl
theorem wgtT_bool (x : El .bool) : wgtT .bool x = 0 := rfl
theorem wgtT_str (x : El .str) : wgtT .str x = 0 := rfl
theorem nth_upd {α : Type} (z : α) (l : List α) (i : Nat) (v : α) (h : i < l.length) : nth z (upd l (i : Int) v) (i : Int) = v := by
  rw [upd_nat, nth_nat _ _ _ (by simpa using h)]; simp
theorem upd_upd {α : Type} (l : List α) (i : Int) (u v : α) : upd (upd l i u) i v = upd l i v := by
  unfold upd; simp
theorem upd_len {α : Type} (l : List α) (i : Int) (v : α) : (upd l i v).length = l.length := by unfold upd; simp
theorem upd_eq {α : Type} (l : List α) (i : Nat) (v w : α) (h : v = w) : upd l (i : Int) v = l.set i w := by rw [upd_nat, h]
end Go.PI.G
