/-
  Printed texts and plain laws. No conditions.
-/
import Derived.Test.YtcapkiofiipamaaGreatPc
import Derived.Test.YtcapkiofiipamaaGreatU3a
import Derived.Test.YtcapkiofiipamaaGreatU3b
set_option linter.unusedVariables false
namespace Go.PI.G
open Go Go.PI

abbrev V := Int × Int × ByteArray
theorem wu8_of (n : Int) : wu8 n = n % 256 := by
  unfold wu8 IntKind.wrap
  simp [IntKind.bits, IntKind.signed]
theorem wu8_small {n : Int} (h : 0 ≤ n ∧ n < 256) : wu8 n = n := by rw [wu8_of]; omega
theorem toBytes_len (s : ByteArray) : (toBytes s).length = s.size := by unfold toBytes; simp
theorem ofBytes_size (l : List Int) : (ofBytes l).size = l.length := by
  show ((l.map fun n => UInt8.ofNat n.toNat).toArray).size = _
  simp
/-- A row of bytes. -/
def isB (l : List Int) : Prop := ∀ x ∈ l, 0 ≤ x ∧ x < 256
theorem toBytes_isB (s : ByteArray) : isB (toBytes s) := by
  intro x hx
  unfold toBytes at hx
  obtain ⟨b, _, rfl⟩ := List.mem_map.1 hx
  have := UInt8.toNat_lt b
  omega
theorem ofBytes_toBytes (s : ByteArray) : ofBytes (toBytes s) = s := by
  unfold ofBytes toBytes
  rw [List.map_map]
  have : (fun b : UInt8 => b) = (fun n : Int => UInt8.ofNat n.toNat) ∘ fun b : UInt8 => (b.toNat : Int) := by
    funext b; simp
  rw [← this]
  simp
theorem toBytes_ofBytes {l : List Int} (h : isB l) : toBytes (ofBytes l) = l := by
  unfold ofBytes toBytes
  simp only [List.map_map]
  have : l.map ((fun b : UInt8 => (b.toNat : Int)) ∘ fun n : Int => UInt8.ofNat n.toNat) = l.map id := by
    refine List.map_congr_left fun x hx => ?_
    have := h x hx
    simp only [Function.comp, id]
    rw [UInt8.toNat_ofNat']
    omega
  rw [this, List.map_id]
theorem sEq_iff (a b : ByteArray) : sEq a b = true ↔ a = b := by
  unfold sEq
  rw [beq_iff_eq]
  constructor
  · intro h
    rw [ByteArray.ext_iff]
    have h1 : a.toList = a.data.toList := by rw [ByteArray.toList_eq]
    have h2 : b.toList = b.data.toList := by rw [ByteArray.toList_eq]
    rw [h1, h2] at h
    exact Array.toList_inj.1 h
  · rintro rfl; rfl
theorem sNe_iff (a b : ByteArray) : sNe a b = false ↔ a = b := by
  unfold sNe
  rw [Bool.not_eq_false']
  exact sEq_iff a b
theorem ofBytes_inj {l m : List Int} (hl : isB l) (hm : isB m) (h : ofBytes l = ofBytes m) : l = m := by
  rw [← toBytes_ofBytes hl, h, toBytes_ofBytes hm]

/-! ### right values -/
def numB (n : Int) : Bool := decide (-1099511627775 ≤ n ∧ n ≤ 1099511627775)
def valB (v : V) : Bool :=
  bif v.1 == 0 then (v.2.1 == 0) && sEq v.2.2 eS
  else bif v.1 == 1 then ((v.2.1 == 0) || (v.2.1 == 1)) && sEq v.2.2 eS
  else bif v.1 == 2 then numB v.2.1 && sEq v.2.2 eS
  else bif v.1 == 3 then (v.2.1 == 0) && decide (nI v.2.2.size ≤ 30)
  else false
theorem or_within (x : Int) : decide (0 ≤ x ∧ x ≤ 1) = ((x == 0) || (x == 1)) := by
  by_cases h : 0 ≤ x ∧ x ≤ 1
  · rw [decide_eq_true h]
    have : x = 0 ∨ x = 1 := by omega
    rcases this with rfl | rfl <;> rfl
  · rw [decide_eq_false h]
    have h1 : (x == 0) = false := by simp; omega
    have h2 : (x == 1) = false := by simp; omega
    rw [h1, h2]; rfl
/-- What a right value is. -/
theorem valB_cases {v : V} (h : valB v = true) : v = (0, 0, eS) ∨ (∃ n, (n = 0 ∨ n = 1) ∧ v = (1, n, eS)) ∨ (∃ n, (-1099511627775 ≤ n ∧ n ≤ 1099511627775) ∧ v = (2, n, eS)) ∨ ∃ s : ByteArray, s.size ≤ 30 ∧ v = (3, 0, s) := by
  obtain ⟨t, n, s⟩ := v
  unfold valB at h
  simp only at h
  cases h0 : t == 0
  · cases h1 : t == 1
    · cases h2 : t == 2
      · cases h3 : t == 3
        · rw [h0, h1, h2, h3] at h; cases h
        · rw [h0, h1, h2, h3] at h
          simp only [cond_false, cond_true, Bool.and_eq_true, beq_iff_eq, decide_eq_true_eq] at h h3
          obtain ⟨rfl, h⟩ := h
          subst h3
          exact .inr (.inr (.inr ⟨s, by unfold nI at h; omega, rfl⟩))
      · rw [h0, h1, h2] at h
        simp only [cond_false, cond_true, Bool.and_eq_true, beq_iff_eq] at h h2
        obtain ⟨h, hs⟩ := h
        rw [sEq_iff] at hs
        subst hs; subst h2
        exact .inr (.inr (.inl ⟨n, of_decide_eq_true h, rfl⟩))
    · rw [h0, h1] at h
      simp only [cond_false, cond_true, Bool.and_eq_true, Bool.or_eq_true, beq_iff_eq] at h h1
      obtain ⟨h, hs⟩ := h
      rw [sEq_iff] at hs
      subst hs; subst h1
      exact .inr (.inl ⟨n, h, rfl⟩)
  · rw [h0] at h
    simp only [cond_true, Bool.and_eq_true, beq_iff_eq] at h h0
    obtain ⟨h, hs⟩ := h
    rw [sEq_iff] at hs
    subst hs; subst h0; subst h
    exact .inl rfl
theorem valB_size {v : V} (h : valB v = true) : v.2.2.size ≤ 30 := by
  rcases valB_cases h with rfl | ⟨n, _, rfl⟩ | ⟨n, _, rfl⟩ | ⟨s, hs, rfl⟩
  · show (0 : Nat) ≤ 30; omega
  · show (0 : Nat) ≤ 30; omega
  · show (0 : Nat) ≤ 30; omega
  · exact hs

/-! ### bytes -/
/-- A number in so many bytes. -/
def be (n : Nat) : Nat → List Int
  | 0 => []
  | s + 1 => ((n / 256 ^ s % 256 : Nat) : Int) :: be n s
theorem be_len (n : Nat) : (s : Nat) → (be n s).length = s
  | 0 => rfl
  | s + 1 => by simp [be, be_len n s]
theorem be_isB (n : Nat) : (s : Nat) → isB (be n s)
  | 0 => by intro x hx; cases hx
  | s + 1 => by
    intro x hx
    rcases List.mem_cons.1 hx with rfl | hx
    · omega
    · exact be_isB n s x hx
theorem isB_append {l m : List Int} (hl : isB l) (hm : isB m) : isB (l ++ m) := fun x hx => (List.mem_append.1 hx).elim (hl x) (hm x)
theorem isB_cons {x : Int} {l : List Int} (hx : 0 ≤ x ∧ x < 256) (hl : isB l) : isB (x :: l) := fun y hy => (List.mem_cons.1 hy).elim (fun h => h ▸ hx) (hl y)
theorem isB_nil : isB [] := fun _ h => by cases h
def wB (v : V) : List Int :=
  bif v.1 == 1 then [1, v.2.1]
  else bif v.1 == 2 then 2 :: (bif decide (v.2.1 < 0) then 1 else 0) :: be v.2.1.natAbs 6
  else bif v.1 == 3 then 3 :: nI v.2.2.size :: toBytes v.2.2
  else [0]
def rowW (l : List V) : List Int := nI l.length :: l.flatMap wB
theorem wB_len {v : V} (h : valB v = true) : (wB v).length ≤ 32 := by
  rcases valB_cases h with rfl | ⟨n, _, rfl⟩ | ⟨n, _, rfl⟩ | ⟨s, hs, rfl⟩
  · show (1 : Nat) ≤ 32; omega
  · show (2 : Nat) ≤ 32; omega
  · show (2 :: (bif decide (n < 0) then 1 else 0) :: be n.natAbs 6).length ≤ 32
    simp [be_len]
  · show (3 :: nI s.size :: toBytes s).length ≤ 32
    simp [toBytes_len]; omega
theorem wB_isB {v : V} (h : valB v = true) : isB (wB v) := by
  rcases valB_cases h with rfl | ⟨n, hn, rfl⟩ | ⟨n, _, rfl⟩ | ⟨s, hs, rfl⟩
  · exact isB_cons (by omega) isB_nil
  · exact isB_cons (by omega) (isB_cons (x := n) (by omega) isB_nil)
  · refine isB_cons (x := 2) (by omega) (isB_cons ?_ (be_isB _ _))
    cases decide (n < 0) <;> simp
  · exact isB_cons (x := 3) (by omega) (isB_cons (x := nI s.size) (by unfold nI; omega) (toBytes_isB s))
theorem flat_len : (l : List V) → (∀ v ∈ l, valB v = true) → (l.flatMap wB).length ≤ 32 * l.length
  | [], _ => by simp
  | v :: l, h => by
    have h1 := wB_len (h v (by simp))
    have h2 := flat_len l fun v hv => h v (List.mem_cons_of_mem _ hv)
    simp only [List.flatMap_cons, List.length_append, List.length_cons]
    omega
theorem flat_isB : (l : List V) → (∀ v ∈ l, valB v = true) → isB (l.flatMap wB)
  | [], _ => isB_nil
  | v :: l, h => by
    rw [List.flatMap_cons]
    exact isB_append (wB_isB (h v (by simp))) (flat_isB l fun v hv => h v (List.mem_cons_of_mem _ hv))
theorem rowW_isB {l : List V} (hl : l.length ≤ 255) (h : ∀ v ∈ l, valB v = true) : isB (rowW l) := isB_cons (by unfold nI; omega) (flat_isB l h)
end Go.PI.G
namespace Go.PI.G
open Go Go.PI Go.Proofs

theorem within_eq (x lo hi : Int) (k : Bool → Res) : impl_within x lo hi k = k (decide (lo ≤ x ∧ x ≤ hi)) := by
  unfold impl_within
  by_cases h : x ≥ lo
  · rw [decide_eq_true h, cond_true]
    congr 1
    exact decide_eq_decide.2 (by omega)
  · rw [decide_eq_false h, cond_false]
    congr 1
    exact (decide_eq_false (by omega)).symm
theorem l01Num_eq (n : Int) (k : Bool → Res) : spec_l01Num n k = k (numB n) := within_eq n _ _ k
theorem specVal_eq (v : V) (k : Bool → Res) : spec_ValOk v k = k (valB v) := by
  unfold spec_ValOk valB
  cases v.1 == 0
  · cases v.1 == 1
    · cases v.1 == 2
      · cases v.1 == 3
        · rfl
        · cases v.2.1 == 0 <;> rfl
      · rw [cond_false, cond_false, cond_true, l01Num_eq]
        cases numB v.2.1 <;> rfl
    · cases v.2.1 == 0
      · cases v.2.1 == 1 <;> rfl
      · rfl
  · cases v.2.1 == 0 <;> rfl
theorem implVal_eq (v : V) (k : Bool → Res) : impl_ValOk v k = k (valB v) := by
  unfold impl_ValOk valB
  simp only [within_eq, or_within]
  cases v.1 == 0
  · cases v.1 == 1
    · cases v.1 == 2
      · cases v.1 == 3
        · rfl
        · cases v.2.1 == 0 <;> rfl
      · rw [cond_false, cond_false, cond_true, cond_false, cond_false, cond_true]
        show (bif numB v.2.1 then _ else _) = _
        cases numB v.2.1 <;> rfl
    · cases v.2.1 == 0
      · cases v.2.1 == 1 <;> rfl
      · rfl
  · cases v.2.1 == 0 <;> rfl
end Go.PI.G
namespace Go.PI.G
open Go Go.PI

/-- How much a value holds. -/
def msr : (τ : Ty) → El τ → Nat
  | .str, s => ByteArray.size s
  | .slice e, l => List.length (α := El e) l + (List.map (msr e) l).sum
  | .pair a b, x => msr a x.1 + msr b x.2
  | .int _, _ => 0
  | .bool, _ => 0
  | .unit, _ => 0
/-- How many marks it takes where it stands in a row; where it is given by value. -/
def wgt : (τ : Ty) → El τ → Nat
  | .str, _ => 1
  | .slice e, l => (List.map (wgt e) l).sum
  | .pair a b, x => wgt a x.1 + wgt b x.2
  | .int _, _ => 1
  | .bool, _ => 1
  | .unit, _ => 0
def wgtT : (τ : Ty) → El τ → Nat
  | .slice e, l => (List.map (wgt e) l).sum
  | .pair a b, x => wgtT a x.1 + wgtT b x.2
  | .str, _ => 0
  | .int _, _ => 0
  | .bool, _ => 0
  | .unit, _ => 0
def width : Ty → Nat
  | .slice e => width e
  | .pair a b => width a + width b
  | .unit => 0
  | _ => 1

theorem sum_le_mul {α : Type} (f g : α → Nat) (c : Nat) (h : ∀ x, f x ≤ (g x + 1) * c) : (l : List α) → (l.map f).sum ≤ (l.length + (l.map g).sum) * c
  | [] => by simp
  | x :: l => by
    have h1 := h x
    have h2 := sum_le_mul f g c h l
    simp only [List.map_cons, List.sum_cons, List.length_cons]
    have : (l.length + 1 + (g x + (l.map g).sum)) * c = (g x + 1) * c + (l.length + (l.map g).sum) * c := by
      rw [← Nat.add_mul]; congr 1; omega
    omega
theorem wgt_le : (τ : Ty) → (x : El τ) → wgt τ x ≤ (msr τ x + 1) * width τ
  | .str, _ => by simp [wgt, width]
  | .int _, _ => by simp [wgt, width]
  | .bool, _ => by simp [wgt, width]
  | .unit, _ => by simp [wgt]
  | .pair a b, x => by
    have h1 := wgt_le a x.1
    have h2 := wgt_le b x.2
    simp only [wgt, msr, width, Nat.mul_add]
    have e1 : (msr a x.1 + 1) * width a ≤ (msr a x.1 + msr b x.2 + 1) * width a := Nat.mul_le_mul_right _ (by omega)
    have e2 : (msr b x.2 + 1) * width b ≤ (msr a x.1 + msr b x.2 + 1) * width b := Nat.mul_le_mul_right _ (by omega)
    omega
  | .slice e, l => by
    have h1 := sum_le_mul (wgt e) (msr e) (width e) (wgt_le e) l
    simp only [wgt, msr, width]
    have e1 : (List.length (α := El e) l + (List.map (msr e) l).sum) * width e ≤ (List.length (α := El e) l + (List.map (msr e) l).sum + 1) * width e := Nat.mul_le_mul_right _ (by omega)
    exact Nat.le_trans h1 e1
theorem wgtT_le_wgt : (τ : Ty) → (x : El τ) → wgtT τ x ≤ wgt τ x
  | .str, _ => Nat.zero_le _
  | .int _, _ => Nat.zero_le _
  | .bool, _ => Nat.zero_le _
  | .unit, _ => Nat.le_refl _
  | .pair a b, x => Nat.add_le_add (wgtT_le_wgt a x.1) (wgtT_le_wgt b x.2)
  | .slice e, l => Nat.le_refl _

/-! ### marks -/
def dgt (x : Int) : ByteArray := ofBytes [wu8 (wi64 (48 + x))]
theorem dgt_size (x : Int) : (dgt x).size = 1 := rfl
def digt (n : Nat) : ByteArray := if h : n < 10 then dgt n else digt (n / 10) ++ dgt ((n % 10 : Nat) : Int)
termination_by n
decreasing_by omega
/-- The text of a mark. -/
def mT (k : Int) : ByteArray := (⟨#[109]⟩ : ByteArray) ++ digt k.toNat
def mk : (τ : Ty) → El τ → Int → El τ
  | .str, _, k => mT k
  | .slice e, l, k => mkL (wgt e) (mk e) l k
  | .pair a b, x, k => (mk a x.1 k, mk b x.2 (k + (wgt a x.1 : Int)))
  | .int .u8, _, k => wu8 k
  | .int _, _, k => k
  | .bool, _, k => (Int.tmod k 3 == 0)
  | .unit, x, _ => x
def mkT : (τ : Ty) → El τ → Int → El τ
  | .slice e, l, k => mkL (wgt e) (mk e) l k
  | .pair a b, x, k => (mkT a x.1 k, mkT b x.2 (k + (wgtT a x.1 : Int)))
  | .str, x, _ => x
  | .int _, x, _ => x
  | .bool, x, _ => x
  | .unit, x, _ => x

theorem msr_slice (e : Ty) (l : List (El e)) : msr (.slice e) l = l.length + (l.map (msr e)).sum := rfl
theorem msr_len {e : Ty} {l : List (El e)} {n : Nat} (h : msr (.slice e) l ≤ n) : l.length ≤ n := by
  have : msr (.slice e) l = l.length + (l.map (msr e)).sum := rfl
  omega
theorem msr_mem {e : Ty} {l : List (El e)} {n : Nat} (h : msr (.slice e) l ≤ n) {x : El e} (hx : x ∈ l) : msr e x ≤ n := by
  have h1 : msr (.slice e) l = l.length + (l.map (msr e)).sum := rfl
  have := le_sum (msr e) l x hx
  omega
/-- A small value: all its marks are numbers without trouble. -/
theorem wgt_small {τ : Ty} {x : El τ} (hw : width τ ≤ 200) (h : msr τ x ≤ 1048576) : wgt τ x ≤ 209715400 := by
  have h1 := wgt_le τ x
  have h2 : (msr τ x + 1) * width τ ≤ 1048577 * 200 := Nat.mul_le_mul (by omega) hw
  omega
theorem wgt_slice (e : Ty) (l : List (El e)) : wgt (.slice e) l = (l.map (wgt e)).sum := rfl
theorem wgt_pair (a b : Ty) (x : El (.pair a b)) : wgt (.pair a b) x = wgt a x.1 + wgt b x.2 := rfl
theorem wgt_int (k : IntKind) (x : El (.int k)) : wgt (.int k) x = 1 := rfl
theorem wgt_bool (x : El .bool) : wgt .bool x = 1 := rfl
theorem wgt_str (x : El .str) : wgt .str x = 1 := rfl
theorem mk_pair (a b : Ty) (x : El (.pair a b)) (k : Int) : mk (.pair a b) x k = (mk a x.1 k, mk b x.2 (k + (wgt a x.1 : Int))) := rfl
theorem mk_slice (e : Ty) (l : El (.slice e)) (k : Int) : mk (.slice e) l k = mkL (wgt e) (mk e) l k := rfl
theorem mk_i64 (x : El (.int .i64)) (k : Int) : mk (.int .i64) x k = k := rfl
theorem mk_u8 (x : El (.int .u8)) (k : Int) : mk (.int .u8) x k = wu8 k := rfl
theorem mk_bool (x : El .bool) (k : Int) : mk .bool x k = (Int.tmod k 3 == 0) := rfl
theorem mk_str (x : El .str) (k : Int) : mk .str x k = mT k := rfl
theorem mkT_pair (a b : Ty) (x : El (.pair a b)) (k : Int) : mkT (.pair a b) x k = (mkT a x.1 k, mkT b x.2 (k + (wgtT a x.1 : Int))) := rfl
theorem mkT_slice (e : Ty) (l : El (.slice e)) (k : Int) : mkT (.slice e) l k = mkL (wgt e) (mk e) l k := rfl
theorem mkT_int (i : IntKind) (x : El (.int i)) (k : Int) : mkT (.int i) x k = x := rfl
theorem mkT_bool (x : El .bool) (k : Int) : mkT .bool x k = x := rfl
theorem mkT_str (x : El .str) (k : Int) : mkT .str x k = x := rfl
theorem wgtT_pair (a b : Ty) (x : El (.pair a b)) : wgtT (.pair a b) x = wgtT a x.1 + wgtT b x.2 := rfl
theorem wgtT_slice (e : Ty) (l : El (.slice e)) : wgtT (.slice e) l = wgt (.slice e) l := rfl
theorem wgtT_int (i : IntKind) (x : El (.int i)) : wgtT (.int i) x = 0 := rfl
theorem wgtT_bool (x : El .bool) : wgtT .bool x = 0 := rfl
theorem wgtT_str (x : El .str) : wgtT .str x = 0 := rfl
theorem nth_upd {α : Type} (z : α) (l : List α) (i : Nat) (v : α) (h : i < l.length) : nth z (upd l (i : Int) v) (i : Int) = v := by
  rw [upd_nat, nth_nat _ _ _ (by simpa using h)]; simp
theorem upd_upd {α : Type} (l : List α) (i : Int) (u v : α) : upd (upd l i u) i v = upd l i v := by
  unfold upd; simp
theorem upd_len {α : Type} (l : List α) (i : Int) (v : α) : (upd l i v).length = l.length := by unfold upd; simp
theorem upd_eq {α : Type} (l : List α) (i : Nat) (v w : α) (h : v = w) : upd l (i : Int) v = l.set i w := by rw [upd_nat, h]
end Go.PI.G
namespace Go.PI.G
open Go Go.PI

theorem szR_zero {left : Int} (h : 0 ≤ left) : szR left 0 = left := by unfold szR; rw [if_pos (by omega)]; omega
/-- A budget less a text, less a part; what is left goes on. -/
theorem sz_str {left : Int} {n rest : Nat} {F : Int → Res} {k : Int → Res} (h0 : 0 ≤ left) (h1 : left ≤ 1048576) (hn : n ≤ maxLen) (hF : (n : Int) ≤ left → F (left - n) = k (szR (left - n) rest)) :
    (bif decide (wi64 (left - nI n) < 0) then k (-1) else F (wi64 (left - nI n))) = k (szR left (n + rest)) := by
  unfold maxLen at hn
  rw [wi64_of (by unfold nI; omega) (by unfold nI; omega)]
  unfold nI
  by_cases h : (n : Int) ≤ left
  · rw [dec_lt_f (by omega), cond_false, hF h, szR_step h]
  · rw [dec_lt_t (by omega), cond_true, szR_stop h]
theorem sz_sub {left : Int} {n rest : Nat} {F : Int → Res} {k : Int → Res} (h0 : 0 ≤ left) (h1 : left ≤ 1048576) (hF : (n : Int) ≤ left → F (left - n) = k (szR (left - n) rest)) :
    (bif decide (szR left n < 0) then k (-1) else F (szR left n)) = k (szR left (n + rest)) := by
  by_cases h : (n : Int) ≤ left
  · rw [szR_pos h, dec_lt_f (by omega), cond_false, hF h, szR_step h]
  · rw [szR_neg h, dec_lt_t (by omega), cond_true, szR_stop h]
theorem sz_end {left : Int} {k : Int → Res} (h0 : 0 ≤ left) : k left = k (szR left 0) := by rw [szR_zero h0]

theorem inb_nat {i n : Nat} (h : i < n) : inb (i : Int) n = true := inb_of (by omega) (by omega)
theorem wi64_in {n : Int} (h : -9223372036854775808 ≤ n ∧ n < 9223372036854775808) : wi64 n = n := wi64_of h.1 h.2
theorem tdiv_nat (n : Nat) : Int.tdiv (n : Int) 10 = ((n / 10 : Nat) : Int) := by
  rw [Int.tdiv_eq_ediv_of_nonneg (by omega)]; omega
theorem tmod_nat (n : Nat) : Int.tmod (n : Int) 10 = ((n % 10 : Nat) : Int) := by
  rw [Int.tmod_eq_emod_of_nonneg (by omega)]; omega
theorem digt_lo {n : Nat} (h : n < 10) : digt n = dgt n := by rw [digt, dif_pos h]
theorem digt_hi {n : Nat} (h : ¬ n < 10) : digt n = digt (n / 10) ++ dgt ((n % 10 : Nat) : Int) := by rw [digt, dif_neg h]
theorem digt_size : ∀ (d n : Nat), n < 10 ^ (d + 1) → (digt n).size ≤ d + 1
  | 0, n, h => by rw [digt_lo (by omega), dgt_size]; exact Nat.le_refl _
  | d + 1, n, h => by
    by_cases h1 : n < 10
    · rw [digt_lo h1, dgt_size]; omega
    · rw [digt_hi h1, ByteArray.size_append, dgt_size]
      have : n / 10 < 10 ^ (d + 1) := Nat.div_lt_of_lt_mul (by rw [Nat.pow_succ] at h; omega)
      have := digt_size d (n / 10) this
      omega
theorem eS_app (s : ByteArray) : s ++ eS = s := by
  show s ++ ByteArray.empty = s
  simp
theorem app_eS (s : ByteArray) : eS ++ s = s := by
  show ByteArray.empty ++ s = s
  simp
end Go.PI.G
namespace Go.PI.G
open Go Go.PI

abbrev C := ByteArray × Int × Bool × Bool × V
abbrev T := ByteArray × List C × List ByteArray
abbrev DB := List T × List (List (List V))
abbrev yV : Ty := .pair (.int .i64) (.pair (.int .i64) .str)
abbrev yC : Ty := .pair .str (.pair (.int .i64) (.pair .bool (.pair .bool yV)))
abbrev yT : Ty := .pair .str (.pair (.slice yC) (.slice .str))
abbrev yDB : Ty := .pair (.slice yT) (.slice (.slice (.slice yV)))
abbrev zV : V := (0, 0, eS)
abbrev zC : C := (eS, 0, false, false, 0, 0, eS)
abbrev zT : T := (eS, [], [])

theorem idxI_range {α : Type} (p : α → Bool) (l : List α) : -1 ≤ idxI p l ∧ idxI p l < (l.length : Int) := by
  unfold idxI
  cases h : l.findIdx? p with
  | none => simp only []; omega
  | some i =>
    have := (List.findIdx?_eq_some_iff_findIdx_eq.1 h).1
    simp only []; omega
theorem anyI_congr {α : Type} {f g : Nat → α → Bool} : (l : List α) → (i : Nat) → (∀ (j : Nat) (h : j < l.length), f (i + j) l[j] = g (i + j) l[j]) → anyI f i l = anyI g i l
  | [], _, _ => rfl
  | x :: l, i, h => by
    simp only [anyI]
    have h0 : f i x = g i x := h 0 (by simp)
    have h1 := anyI_congr (f := f) (g := g) l (i + 1) fun j hj => by
      have := h (j + 1) (by simpa using hj)
      rw [show i + 1 + j = i + (j + 1) by omega]
      simpa using this
    rw [h0, h1]
theorem anyI_false {α : Type} {f : Nat → α → Bool} : (l : List α) → (i : Nat) → anyI f i l = false → ∀ (j : Nat) (h : j < l.length), f (i + j) l[j] = false
  | [], _, _, j, h => by simp at h
  | x :: l, i, h, j, hj => by
    simp only [anyI, Bool.or_eq_false_iff] at h
    cases j with
    | zero => simpa using h.1
    | succ j =>
      have := anyI_false l (i + 1) h.2 j (by simpa using hj)
      rw [show i + (j + 1) = i + 1 + j by omega]
      simpa using this
theorem anyI_eq_any {α : Type} (f : α → Bool) : (l : List α) → (i : Nat) → anyI (fun _ x => f x) i l = l.any f
  | [], _ => rfl
  | x :: l, i => by simp only [anyI, List.any_cons]; rw [anyI_eq_any f l]

/-! ### words, values -/
def wordB (s : ByteArray) : Bool := !((toBytes s).any fun b => decide (b < 97) || decide (b > 122)) && (decide (1 ≤ s.size) && decide (s.size ≤ 8))
def veq (a b : V) : Bool := (a.1 == b.1) && ((a.2.1 == b.2.1) && sEq a.2.2 b.2.2)
theorem veq_iff (a b : V) : veq a b = true ↔ a = b := by
  obtain ⟨a1, a2, a3⟩ := a
  obtain ⟨b1, b2, b3⟩ := b
  unfold veq
  simp only [Bool.and_eq_true, beq_iff_eq, sEq_iff, Prod.mk.injEq]
def vlt (a b : V) : Bool := valB a && (valB b && (bif a.1 != b.1 then decide (a.1 < b.1) else bif a.2.1 != b.2.1 then decide (a.2.1 < b.2.1) else sLt a.2.2 b.2.2))

/-! ### columns, tables -/
def nullB (v : V) : Bool := (v.1 == 0) && ((v.2.1 == 0) && sEq v.2.2 eS)
def colB (c : C) : Bool := wordB c.1 && (decide (1 ≤ c.2.1 ∧ c.2.1 ≤ 3) && (valB c.2.2.2.2 && (bif c.2.2.2.1 then (c.2.2.2.2.1 == c.2.1) || ((c.2.2.2.2.1 == 0) && !c.2.2.1) else nullB c.2.2.2.2)))
def colAt (l : List C) (n : ByteArray) : Int := idxI (fun c => sEq c.1 n) l
theorem colAt_range (l : List C) (n : ByteArray) : -1 ≤ colAt l n ∧ colAt l n < (l.length : Int) := idxI_range _ _
theorem valB_null : valB (0, 0, eS) = true := by
  show (((0 : Int) == 0) && sEq eS eS) = true
  rw [sEq_self]; rfl
theorem nullB_null : nullB (0, 0, eS) = true := by
  show (((0 : Int) == 0) && (((0 : Int) == 0) && sEq eS eS)) = true
  rw [sEq_self]; rfl
def keysUp (l : List C) : Int → List ByteArray → Bool
  | _, [] => true
  | last, k :: ks => !decide (colAt l k ≤ last) && ((nth zC l (colAt l k)).2.2.1 && keysUp l (colAt l k) ks)
def colsB (l : List C) : Bool := !anyI (fun i c => !colB c || (colAt l c.1 != (i : Int))) 0 l
def tabB (t : T) : Bool := (wordB t.1 && (decide (1 ≤ t.2.1.length) && (decide (t.2.1.length ≤ 8) && decide (1 ≤ t.2.2.length)))) && (colsB t.2.1 && keysUp t.2.1 (-1) t.2.2)
def tabAt (l : List T) (n : ByteArray) : Int := idxI (fun t => sEq t.1 n) l
def catB (c : List T) : Bool := decide (c.length ≤ 6) && !anyI (fun i t => !tabB t || (decide (0 < i) && sGe (nth zT c ((i : Int) - 1)).1 t.1)) 0 c

/-! ### rows, stores -/
def fits (c : C) (v : V) : Bool := valB v && ((v.1 == c.2.1) || ((v.1 == 0) && !c.2.2.1))
def rowB (l : List C) (r : List V) : Bool := decide (r.length = l.length) && !anyI (fun i c => !fits c (nth zV r (i : Int))) 0 l
def keyV (t : T) (r : List V) : List V := t.2.2.map fun k => nth zV r (colAt t.2.1 k)
def klt : List V → List V → Bool
  | [], [] => false
  | [], _ :: _ => true
  | _ :: _, [] => false
  | x :: xs, y :: ys => bif veq x y then klt xs ys else vlt x y
def rowsB (t : T) (l : List (List V)) : Bool := tabB t && (decide (l.length ≤ 60) && !anyI (fun i r => !rowB t.2.1 r || (decide (0 < i) && !klt (keyV t (nth [] l ((i : Int) - 1))) (keyV t r))) 0 l)
def dbB (d : DB) : Bool := catB d.1 && (decide (d.2.length = d.1.length) && !anyI (fun i t => !rowsB t (nth [] d.2 (i : Int))) 0 d.1)
def keysV (d : DB) (n : ByteArray) : List (List V) := bif dbB d && !decide (tabAt d.1 n < 0) then (nth [] d.2 (tabAt d.1 n)).map (keyV (nth zT d.1 (tabAt d.1 n))) else []

/-! ### what a right table has -/
theorem tabB_parts {t : T} (h : tabB t = true) : wordB t.1 = true ∧ 1 ≤ t.2.1.length ∧ t.2.1.length ≤ 8 ∧ 1 ≤ t.2.2.length ∧ colsB t.2.1 = true ∧ keysUp t.2.1 (-1) t.2.2 = true := by
  unfold tabB at h
  simp only [Bool.and_eq_true, decide_eq_true_eq] at h
  exact ⟨h.1.1, h.1.2.1, h.1.2.2.1, h.1.2.2.2, h.2.1, h.2.2⟩
theorem keysUp_range {l : List C} : (ks : List ByteArray) → (last : Int) → -1 ≤ last → keysUp l last ks = true → ∀ k ∈ ks, 0 ≤ colAt l k ∧ colAt l k < (l.length : Int)
  | [], _, _, _, k, hk => by cases hk
  | q :: ks, last, h0, h, k, hk => by
    simp only [keysUp, Bool.and_eq_true, Bool.not_eq_true', decide_eq_false_iff_not] at h
    have h1 := (idxI_range (fun c : C => sEq c.1 q) l).2
    have h2 : 0 ≤ colAt l q := by omega
    rcases List.mem_cons.1 hk with rfl | hk
    · exact ⟨h2, h1⟩
    · exact keysUp_range ks (colAt l q) (by omega) h.2.2 k hk
theorem colB_ty {c : C} (h : colB c = true) : 1 ≤ c.2.1 ∧ c.2.1 ≤ 3 := by
  unfold colB at h
  simp only [Bool.and_eq_true, decide_eq_true_eq] at h
  exact h.2.1
theorem colsB_get {l : List C} (h : colsB l = true) (i : Nat) (hi : i < l.length) : colB l[i] = true := by
  unfold colsB at h
  have := anyI_false l 0 (by simpa using h) i hi
  simp only [Bool.or_eq_false_iff, Bool.not_eq_false'] at this
  exact this.1
end Go.PI.G
set_option linter.unusedSimpArgs false
namespace Go.PI.G
open Go Go.PI Go.Proofs

theorem bt_get (s : ByteArray) (i : Nat) (h : i < (toBytes s).length) : bt s (i : Int) = (toBytes s)[i] := by
  have hl := toBytes_len s
  have h' : i < s.data.size := by
    have : i < s.size := by omega
    exact this
  have e1 : (toBytes s)[i] = ((s.data.toList.map fun b : UInt8 => (b.toNat : Int))[i]'(by simpa using h')) := rfl
  rw [e1, List.getElem_map]
  unfold bt
  simp [Array.getElem?_eq_getElem h']
theorem word_end (s : ByteArray) (x : Bool) (k : Bool → Res) : (bif x then k false else (bif decide ((nI (ByteArray.size s)) ≥ 1) then k (decide ((nI (ByteArray.size s)) ≤ 8)) else k false)) = k (!x && (decide (1 ≤ s.size) && decide (s.size ≤ 8))) := by
  cases x
  · unfold nI
    by_cases h1 : 1 ≤ s.size
    · rw [cond_false, decide_eq_true (show (s.size : Int) ≥ 1 by omega), cond_true, decide_eq_true h1]
      congr 1
      by_cases h2 : s.size ≤ 8
      · rw [decide_eq_true (show (s.size : Int) ≤ 8 by omega), decide_eq_true h2]; rfl
      · rw [decide_eq_false (show ¬ (s.size : Int) ≤ 8 by omega), decide_eq_false h2]; rfl
    · rw [cond_false, decide_eq_false (show ¬ (s.size : Int) ≥ 1 by omega), cond_false, decide_eq_false h1]; rfl
  · rfl
theorem specWord_eq (s : ByteArray) (h : s.size ≤ LIM) (k : Bool → Res) : spec_WordOk s k = k (wordB s) := by
  unfold spec_WordOk spec_WordOk_l0
  have hl := toBytes_len s
  have := any_loop (toBytes s) (fun i => i) (fun b => decide (b < 97) || decide (b > 122)) (step := spec_WordOk_l0_s s) ((fun (_ : Unit) => bif decide ((nI (ByteArray.size s)) ≥ 1) then k (decide ((nI (ByteArray.size s)) ≤ 8)) else k false), (fun (_ : Unit) => k false)) (bif decide ((nI (ByteArray.size s)) ≥ 1) then k (decide ((nI (ByteArray.size s)) ≤ 8)) else k false) (k false) (by omega) (fun i rec hi => by
    show spec_WordOk_l0_r s _ _ _ _ = _
    unfold spec_WordOk_l0_r
    unfold LIM at h
    have hi' : i < s.size := by omega
    rw [nI_lt hi', cond_true, inb_nat hi', cond_true, cond_true, bt_get s i hi, wi64_in (n := (i : Int) + 1) (by omega)]
    cases decide ((toBytes s)[i] < 97)
    · cases decide ((toBytes s)[i] > 122) <;> rfl
    · rfl) (fun rec => by
    show spec_WordOk_l0_r s _ _ _ _ = _
    unfold spec_WordOk_l0_r
    rw [hl, nI_ge, cond_false])
  refine this.trans ?_
  exact word_end s _ k
theorem implWord_eq (s : ByteArray) (h : s.size ≤ LIM) (k : Bool → Res) : impl_WordOk s k = k (wordB s) := by
  unfold impl_WordOk impl_WordOk_l0
  have hl := toBytes_len s
  have := any_loop (toBytes s) (fun i => i) (fun b => decide (b < 97) || decide (b > 122)) (step := impl_WordOk_l0_s s) ((fun (_ : Unit) => impl_within (nI (ByteArray.size s)) 1 8 fun (r : Bool) => k r), (fun (_ : Unit) => k false)) (impl_within (nI (ByteArray.size s)) 1 8 fun (r : Bool) => k r) (k false) (by omega) (fun i rec hi => by
    show impl_WordOk_l0_r s _ _ _ _ = _
    unfold impl_WordOk_l0_r
    unfold LIM at h
    have hi' : i < s.size := by omega
    rw [nI_lt hi', cond_true, inb_nat hi', cond_true, cond_true, bt_get s i hi, wi64_in (n := (i : Int) + 1) (by omega)]
    cases decide ((toBytes s)[i] < 97)
    · cases decide ((toBytes s)[i] > 122) <;> rfl
    · rfl) (fun rec => by
    show impl_WordOk_l0_r s _ _ _ _ = _
    unfold impl_WordOk_l0_r
    rw [hl, nI_ge, cond_false])
  refine this.trans ?_
  rw [within_eq]
  have hd : decide (1 ≤ nI s.size ∧ nI s.size ≤ 8) = (decide (1 ≤ s.size) && decide (s.size ≤ 8)) := by
    rw [← Bool.decide_and]
    exact decide_eq_decide.2 (by unfold nI; omega)
  rw [hd]
  unfold wordB
  cases (toBytes s).any fun b => decide (b < 97) || decide (b > 122) <;> rfl

theorem specLess_eq (a b : V) (k : Bool → Res) : spec_ValLess a b k = k (vlt a b) := by
  unfold spec_ValLess vlt
  rw [specVal_eq, specVal_eq]
  cases valB a
  · rfl
  · cases valB b
    · rfl
    · rw [Bool.not_true, cond_false, cond_false, Bool.true_and, Bool.true_and]
      cases a.1 != b.1
      · rw [cond_false, cond_false]
        by_cases h : a.2.1 = b.2.1
        · rw [h, bne_f, cond_false, decide_eq_false (by omega), cond_false, beq_self_eq_true, cond_true]
        · have h1 : (a.2.1 != b.2.1) = true := by simp [h]
          have h2 : (a.2.1 == b.2.1) = false := by simp [h]
          rw [h1, h2, cond_true, cond_false]
          cases decide (a.2.1 < b.2.1) <;> rfl
      · rfl
theorem implLess_eq (a b : V) (k : Bool → Res) : impl_ValLess a b k = k (vlt a b) := by
  unfold impl_ValLess vlt
  rw [implVal_eq, implVal_eq]
  cases valB a
  · rfl
  · cases valB b
    · rfl
    · rw [Bool.not_true, cond_false, cond_false, Bool.true_and, Bool.true_and]
      cases a.1 != b.1
      · rw [cond_false, cond_false]
        cases a.2.1 != b.2.1 <;> rfl
      · rfl

/-! ### columns -/
theorem specCol_eq (c : C) (h : c.1.size ≤ LIM) (k : Bool → Res) : spec_ColOk c k = k (colB c) := by
  obtain ⟨n, ty, nt, hs, df⟩ := c
  unfold spec_ColOk colB
  dsimp only at h ⊢
  rw [specWord_eq n h, specVal_eq]
  cases wordB n
  · rfl
  · rw [Bool.not_true, cond_false, Bool.true_and]
    by_cases h1 : 1 ≤ ty ∧ ty ≤ 3
    · rw [decide_eq_false (show ¬ ty < 1 by omega), cond_false, decide_eq_false (show ¬ ty > 3 by omega), cond_false, decide_eq_true h1, Bool.true_and]
      cases hs
      · rw [Bool.not_false, cond_true, cond_false]
        have : valB df = false → nullB df = false := fun hv => by
          cases hn : nullB df with
          | false => rfl
          | true =>
            unfold nullB at hn
            simp only [Bool.and_eq_true, beq_iff_eq, sEq_iff] at hn
            have : df = (0, 0, eS) := by
              obtain ⟨a, b, c⟩ := df
              simp only at hn
              rw [hn.1, hn.2.1, hn.2.2]
            rw [this, valB_null] at hv
            cases hv
        cases hv : valB df
        · rw [Bool.false_and]
          exact congrArg k (this hv)
        · rfl
      · rw [Bool.not_true, cond_false, cond_true]
        cases hv : valB df
        · rfl
        · rw [cond_true, Bool.true_and]
          have hnull : (df.1 == 0) = true → ((df.1 == 0) && ((df.2.1 == 0) && sEq df.2.2 eS)) = true := fun h0 => by
            rcases valB_cases hv with rfl | ⟨m, _, rfl⟩ | ⟨m, _, rfl⟩ | ⟨m, _, rfl⟩
            · exact nullB_null
            · cases h0
            · cases h0
            · cases h0
          cases h0 : df.1 == 0
          · rw [Bool.false_and, cond_false]
            cases df.1 == ty <;> rfl
          · have := hnull h0
            rw [h0] at this
            rw [this, cond_true, cond_true]
            have hty : (df.1 == ty) = false := by
              simp only [beq_iff_eq] at h0
              rw [h0]; simp; omega
            rw [hty, Bool.false_or, Bool.true_and]
    · rw [decide_eq_false h1]
      by_cases h2 : ty < 1
      · rw [decide_eq_true h2]; rfl
      · rw [decide_eq_false h2, cond_false, decide_eq_true (show ty > 3 by omega)]; rfl
theorem implCol_eq (c : C) (h : c.1.size ≤ LIM) (k : Bool → Res) : impl_ColOk c k = k (colB c) := by
  obtain ⟨n, ty, nt, hs, df⟩ := c
  unfold impl_ColOk colB
  dsimp only at h ⊢
  rw [implWord_eq n h, within_eq, implVal_eq]
  cases wordB n
  · rfl
  · cases decide (1 ≤ ty ∧ ty ≤ 3)
    · rfl
    · cases valB df
      · rfl
      · cases hs
        · rfl
        · cases df.1 == ty
          · cases df.1 == 0 <;> rfl
          · rfl

theorem specAt_eq (t : T) (n : ByteArray) (h : t.2.1.length ≤ LIM) (k : Int → Res) : spec_ColAt t n k = k (colAt t.2.1 n) := by
  unfold spec_ColAt spec_ColAt_l0
  refine find_loop t.2.1 (fun i => i) (fun c => sEq c.1 n) (step := spec_ColAt_l0_s n t.2.1 (nI t.2.1.length)) _ k h (fun i rec hi => ?_) (fun rec => ?_)
  · show spec_ColAt_l0_r n _ _ _ _ _ _ = _
    unfold spec_ColAt_l0_r
    unfold LIM at h
    rw [nI_lt hi, cond_true, inb_nat hi, cond_true, nth_nat _ _ _ hi, wi64_in (n := (i : Int) + 1) (by omega)]
  · show spec_ColAt_l0_r n _ _ _ _ _ _ = _
    unfold spec_ColAt_l0_r
    rw [nI_ge, cond_false]
theorem implAt_eq (t : T) (n : ByteArray) (h : t.2.1.length ≤ LIM) (k : Int → Res) : impl_ColAt t n k = k (colAt t.2.1 n) := by
  unfold impl_ColAt slices_IndexFunc_Col slices_IndexFunc_Col_l0
  refine find_loop t.2.1 (fun i => i) (fun c => sEq c.1 n) (step := slices_IndexFunc_Col_l0_s t.2.1 n (nI t.2.1.length)) _ k h (fun i rec hi => ?_) (fun rec => ?_)
  · show slices_IndexFunc_Col_l0_r _ n _ _ _ _ _ = _
    unfold slices_IndexFunc_Col_l0_r impl_ColAt1
    unfold LIM at h
    rw [nI_lt hi, cond_true, inb_nat hi, cond_true, nth_nat _ _ _ hi, wi64_in (n := (i : Int) + 1) (by omega)]
  · show slices_IndexFunc_Col_l0_r _ n _ _ _ _ _ = _
    unfold slices_IndexFunc_Col_l0_r
    rw [nI_ge, cond_false]

/-! ### tables -/
theorem msr_T {t : T} (h : msr yT t ≤ 1048576) : t.1.size ≤ 1048576 ∧ t.2.1.length ≤ 1048576 ∧ t.2.2.length ≤ 1048576 ∧ (∀ c ∈ t.2.1, c.1.size ≤ 1048576) ∧ ∀ x ∈ t.2.2, x.size ≤ 1048576 := by
  have h1 : msr yT t = t.1.size + (msr (.slice yC) t.2.1 + msr (.slice .str) t.2.2) := rfl
  have h2 : msr (.slice yC) t.2.1 ≤ 1048576 := by omega
  have h3 : msr (.slice .str) t.2.2 ≤ 1048576 := by omega
  refine ⟨by omega, msr_len h2, msr_len h3, fun c hc => ?_, fun x hx => msr_mem h3 hx⟩
  have := msr_mem h2 hc
  have h4 : msr yC c = c.1.size + msr (.pair (.int .i64) (.pair .bool (.pair .bool yV))) c.2 := rfl
  omega

theorem specCols_loop (t : T) (h : msr yT t ≤ 1048576) (a b : Unit → Res) : spec_TableOk_l1 t.2.1 (nI t.2.1.length) t FUEL 0 a b = bif colsB t.2.1 then a () else b () := by
  obtain ⟨m1, m2, m3, m4, m5⟩ := msr_T h
  unfold spec_TableOk_l1
  have := anyI_loop t.2.1 (fun i => i) (fun i c => !colB c || (colAt t.2.1 c.1 != (i : Int))) (step := spec_TableOk_l1_s t.2.1 (nI t.2.1.length) t) (a, b) (a ()) (b ()) (by unfold LIM; omega) (fun i rec hi => by
    show spec_TableOk_l1_r _ _ t _ _ _ _ = _
    unfold spec_TableOk_l1_r
    rw [nI_lt hi, cond_true, inb_nat hi, cond_true, nth_nat _ _ _ hi, specCol_eq _ (by have := m4 _ (List.getElem_mem hi); unfold LIM; omega), specAt_eq t _ (by unfold LIM; omega), wi64_in (n := (i : Int) + 1) (by omega)]
    cases colB t.2.1[i]
    · rfl
    · cases colAt t.2.1 t.2.1[i].1 != (i : Int) <;> rfl) (fun rec => by
    show spec_TableOk_l1_r _ _ t _ _ _ _ = _
    unfold spec_TableOk_l1_r
    rw [nI_ge, cond_false])
  refine this.trans ?_
  unfold colsB
  cases anyI (fun i c => !colB c || (colAt t.2.1 c.1 != (i : Int))) 0 t.2.1 <;> rfl
theorem implCols_loop (t : T) (h : msr yT t ≤ 1048576) (a b : Unit → Res) : impl_TableOk_l0 t.2.1 (nI t.2.1.length) t FUEL 0 a b = bif colsB t.2.1 then a () else b () := by
  obtain ⟨m1, m2, m3, m4, m5⟩ := msr_T h
  unfold impl_TableOk_l0
  have := anyI_loop t.2.1 (fun i => i) (fun i c => !colB c || (colAt t.2.1 c.1 != (i : Int))) (step := impl_TableOk_l0_s t.2.1 (nI t.2.1.length) t) (a, b) (a ()) (b ()) (by unfold LIM; omega) (fun i rec hi => by
    show impl_TableOk_l0_r _ _ t _ _ _ _ = _
    unfold impl_TableOk_l0_r
    rw [nI_lt hi, cond_true, inb_nat hi, cond_true, nth_nat _ _ _ hi, implCol_eq _ (by have := m4 _ (List.getElem_mem hi); unfold LIM; omega), implAt_eq t _ (by unfold LIM; omega), wi64_in (n := (i : Int) + 1) (by omega)]
    cases colB t.2.1[i]
    · rfl
    · cases colAt t.2.1 t.2.1[i].1 != (i : Int) <;> rfl) (fun rec => by
    show impl_TableOk_l0_r _ _ t _ _ _ _ = _
    unfold impl_TableOk_l0_r
    rw [nI_ge, cond_false])
  refine this.trans ?_
  unfold colsB
  cases anyI (fun i c => !colB c || (colAt t.2.1 c.1 != (i : Int))) 0 t.2.1 <;> rfl

def keyStep (l : List C) (last : Int) (k : ByteArray) : Except Unit Int := bif decide (colAt l k ≤ last) then .error () else bif !(nth zC l (colAt l k)).2.2.1 then .error () else .ok (colAt l k)
theorem keys_walk (l : List C) : (ks : List ByteArray) → (i : Nat) → (last : Int) → (∃ z, walkL (fun _ last k => keyStep l last k) i ks last = .ok z ∧ keysUp l last ks = true) ∨ (walkL (fun _ last k => keyStep l last k) i ks last = .error () ∧ keysUp l last ks = false)
  | [], _, last => .inl ⟨last, rfl, rfl⟩
  | k :: ks, i, last => by
    have ih := keys_walk l ks (i + 1) (colAt l k)
    simp only [walkL, keysUp, keyStep] at ih ⊢
    cases decide (colAt l k ≤ last)
    · cases (nth zC l (colAt l k)).2.2.1
      · exact .inr ⟨rfl, rfl⟩
      · exact ih
    · exact .inr ⟨rfl, rfl⟩
theorem specKeys_loop (t : T) (h : msr yT t ≤ 1048576) (a b : Unit → Res) : spec_TableOk_l2 t.2.2 (nI t.2.2.length) t FUEL (-1) 0 a b = bif keysUp t.2.1 (-1) t.2.2 then a () else b () := by
  obtain ⟨m1, m2, m3, m4, m5⟩ := msr_T h
  unfold spec_TableOk_l2
  have := walk_loop t.2.2 (fun i last => (last, i)) (fun _ last k => keyStep t.2.1 last k) (fun _ last => -1 ≤ last) (step := spec_TableOk_l2_s t.2.2 (nI t.2.2.length) t) (a, b) (fun _ => a ()) (fun _ => b ()) (-1) (by unfold LIM; omega) (by omega) (fun i last last' hi h0 hk => by
    unfold keyStep at hk
    have := (colAt_range t.2.1 t.2.2[i]).1
    cases h1 : decide (colAt t.2.1 t.2.2[i] ≤ last)
    · rw [h1, cond_false] at hk
      cases h2 : (nth zC t.2.1 (colAt t.2.1 t.2.2[i])).2.2.1
      · rw [h2] at hk; cases hk
      · rw [h2] at hk
        cases hk
        exact this
    · rw [h1] at hk; cases hk) (fun i last rec hi h0 => by
    show spec_TableOk_l2_r _ _ t _ _ _ _ _ = _
    unfold spec_TableOk_l2_r
    dsimp only
    rw [nI_lt hi, cond_true, inb_nat hi, cond_true, nth_nat _ _ _ hi, specAt_eq t _ (by unfold LIM; omega), wi64_in (n := (i : Int) + 1) (by omega)]
    unfold keyStep
    by_cases h1 : colAt t.2.1 t.2.2[i] ≤ last
    · rw [decide_eq_true h1]; rfl
    · have hr := (colAt_range t.2.1 t.2.2[i]).2
      rw [decide_eq_false h1, cond_false, cond_false, inb_of (by omega) hr, cond_true]
      cases (nth zC t.2.1 (colAt t.2.1 t.2.2[i])).2.2.1 <;> rfl) (fun last rec _ => by
    show spec_TableOk_l2_r _ _ t _ _ _ _ _ = _
    unfold spec_TableOk_l2_r
    dsimp only
    rw [nI_ge, cond_false])
  refine this.trans ?_
  rcases keys_walk t.2.1 t.2.2 0 (-1) with ⟨z, h1, h2⟩ | ⟨h1, h2⟩ <;> rw [h1, h2] <;> rfl
theorem implKeys_loop (t : T) (h : msr yT t ≤ 1048576) (a b : Unit → Res) : impl_TableOk_l1 t.2.2 (nI t.2.2.length) t FUEL (-1) 0 a b = bif keysUp t.2.1 (-1) t.2.2 then a () else b () := by
  obtain ⟨m1, m2, m3, m4, m5⟩ := msr_T h
  unfold impl_TableOk_l1
  have := walk_loop t.2.2 (fun i last => (last, i)) (fun _ last k => keyStep t.2.1 last k) (fun _ last => -1 ≤ last) (step := impl_TableOk_l1_s t.2.2 (nI t.2.2.length) t) (a, b) (fun _ => a ()) (fun _ => b ()) (-1) (by unfold LIM; omega) (by omega) (fun i last last' hi h0 hk => by
    unfold keyStep at hk
    have := (colAt_range t.2.1 t.2.2[i]).1
    cases h1 : decide (colAt t.2.1 t.2.2[i] ≤ last)
    · rw [h1, cond_false] at hk
      cases h2 : (nth zC t.2.1 (colAt t.2.1 t.2.2[i])).2.2.1
      · rw [h2] at hk; cases hk
      · rw [h2] at hk
        cases hk
        exact this
    · rw [h1] at hk; cases hk) (fun i last rec hi h0 => by
    show impl_TableOk_l1_r _ _ t _ _ _ _ _ = _
    unfold impl_TableOk_l1_r
    dsimp only
    rw [nI_lt hi, cond_true, inb_nat hi, cond_true, nth_nat _ _ _ hi, implAt_eq t _ (by unfold LIM; omega), wi64_in (n := (i : Int) + 1) (by omega)]
    unfold keyStep
    by_cases h1 : colAt t.2.1 t.2.2[i] ≤ last
    · rw [decide_eq_true h1]; rfl
    · have hr := (colAt_range t.2.1 t.2.2[i]).2
      rw [decide_eq_false h1, cond_false, cond_false, inb_of (by omega) hr, cond_true]
      cases (nth zC t.2.1 (colAt t.2.1 t.2.2[i])).2.2.1 <;> rfl) (fun last rec _ => by
    show impl_TableOk_l1_r _ _ t _ _ _ _ _ = _
    unfold impl_TableOk_l1_r
    dsimp only
    rw [nI_ge, cond_false])
  refine this.trans ?_
  rcases keys_walk t.2.1 t.2.2 0 (-1) with ⟨z, h1, h2⟩ | ⟨h1, h2⟩ <;> rw [h1, h2] <;> rfl
theorem tab_head (t : T) (k : Bool → Res) : spec_TableOk_p0 t k = spec_WordOk t.1 fun w => k (!(w && (decide (1 ≤ t.2.1.length) && (decide (t.2.1.length ≤ 8) && decide (1 ≤ t.2.2.length))))) := by
  unfold spec_TableOk_p0
  congr 1
  funext w
  unfold nI
  cases w
  · rfl
  · rw [Bool.not_true, cond_false, Bool.true_and]
    by_cases h1 : 1 ≤ t.2.1.length
    · rw [decide_eq_false (show ¬ (t.2.1.length : Int) < 1 by omega), cond_false, decide_eq_true h1, Bool.true_and]
      by_cases h2 : t.2.1.length ≤ 8
      · rw [decide_eq_false (show ¬ (t.2.1.length : Int) > 8 by omega), cond_false, decide_eq_true h2, Bool.true_and]
        congr 1
        by_cases h3 : 1 ≤ t.2.2.length
        · rw [decide_eq_false (show ¬ (t.2.2.length : Int) < 1 by omega), decide_eq_true h3]; rfl
        · rw [decide_eq_true (show (t.2.2.length : Int) < 1 by omega), decide_eq_false h3]; rfl
      · rw [decide_eq_true (show (t.2.1.length : Int) > 8 by omega), decide_eq_false h2]; rfl
    · rw [decide_eq_true (show (t.2.1.length : Int) < 1 by omega), decide_eq_false h1]; rfl
theorem specTab_eq (t : T) (h : msr yT t ≤ 1048576) (k : Bool → Res) : spec_TableOk t k = k (tabB t) := by
  obtain ⟨m1, m2, m3, m4, m5⟩ := msr_T h
  unfold spec_TableOk tabB
  rw [tab_head, specWord_eq _ (by unfold LIM; omega), specCols_loop t h, specKeys_loop t h]
  cases wordB t.1 && (decide (1 ≤ t.2.1.length) && (decide (t.2.1.length ≤ 8) && decide (1 ≤ t.2.2.length)))
  · rfl
  · cases colsB t.2.1
    · rfl
    · cases keysUp t.2.1 (-1) t.2.2 <;> rfl
theorem implTab_eq (t : T) (h : msr yT t ≤ 1048576) (k : Bool → Res) : impl_TableOk t k = k (tabB t) := by
  obtain ⟨m1, m2, m3, m4, m5⟩ := msr_T h
  unfold impl_TableOk tabB
  rw [implWord_eq _ (by unfold LIM; omega), within_eq, implCols_loop t h, implKeys_loop t h]
  have hd : decide (1 ≤ nI t.2.1.length ∧ nI t.2.1.length ≤ 8) = (decide (1 ≤ t.2.1.length) && decide (t.2.1.length ≤ 8)) := by
    rw [← Bool.decide_and]
    exact decide_eq_decide.2 (by unfold nI; omega)
  have hk : decide (nI t.2.2.length > 0) = decide (1 ≤ t.2.2.length) := decide_eq_decide.2 (by unfold nI; omega)
  rw [hd, hk]
  cases colsB t.2.1
  · rw [Bool.false_and, Bool.and_false]; rfl
  · cases keysUp t.2.1 (-1) t.2.2
    · rw [Bool.and_false, Bool.and_false]; rfl
    · cases wordB t.1
      · rfl
      · cases decide (1 ≤ t.2.1.length)
        · rfl
        · cases decide (t.2.1.length ≤ 8)
          · rfl
          · cases decide (1 ≤ t.2.2.length) <;> rfl

/-! ### catalogs -/
theorem cat_step (c : List T) (i : Nat) (hi : i < c.length) (hl : c.length ≤ LIM) (x : Res) (y : Res) : (bif decide ((i : Int) > 0) then (bif inb (wi64 ((i : Int) - 1)) c.length then (bif sGe (nth zT c (wi64 ((i : Int) - 1))).1 c[i].1 then x else y) else none) else y) =
    bif (decide (0 < i) && sGe (nth zT c ((i : Int) - 1)).1 c[i].1) then x else y := by
  by_cases h : 0 < i
  · unfold LIM at hl
    rw [decide_eq_true (show (i : Int) > 0 by omega), decide_eq_true h, cond_true, wi64_in (by omega), inb_of (by omega) (by omega), cond_true, Bool.true_and]
  · rw [decide_eq_false (show ¬ (i : Int) > 0 by omega), decide_eq_false h]; rfl
end Go.PI.G
