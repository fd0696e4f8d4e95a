/-
  RowSum: the plain law. No conditions.
-/
import Derived.Test.YtnijpcgdbjmokaaL12
import Derived.Test.YtnijpcgdbjmokaaPc
set_option linter.unusedVariables false
namespace Go.PI.L12
open Go Go.PI Go.Proofs

abbrev V := Int × Int × ByteArray
theorem bne_f {α : Type} [BEq α] [LawfulBEq α] (n : α) : (n != n) = false := by simp

def foldN {A : Type} (f : Nat → A → A) : Nat → Nat → A → A
  | _, 0, a => a
  | i, d + 1, a => foldN f (i + 1) d (f i a)

theorem fold_loop {A V K : Type} (N : Nat) (st : Int → A → V) (f : Nat → A → A) (p : Nat → A → Prop) {step : V → (V → Res) → K → Res} (q : K) (fin : A → Res) (a0 : A) (hN : N ≤ LIM) (h0 : p 0 a0)
    (hp : ∀ (i : Nat) a, i < N → p i a → p (i + 1) (f i a)) (hs : ∀ (i : Nat) a rec, i < N → p i a → step (st i a) rec q = rec (st ((i : Int) + 1) (f i a)))
    (he : ∀ a rec, p N a → step (st (N : Int) a) rec q = fin a) : iter step FUEL (st 0 a0) q = fin (foldN f 0 N a0) ∧ p N (foldN f 0 N a0) := by
  have key : ∀ (d i n : Nat) (a : A), i + d = N → d < n → p i a → iter step n (st i a) q = fin (foldN f i d a) ∧ p N (foldN f i d a) := by
    intro d
    induction d with
    | zero =>
      intro i n a hi hn ha
      obtain ⟨n, rfl⟩ : ∃ m, n = m + 1 := ⟨n - 1, by omega⟩
      have : i = N := by omega
      subst this
      exact ⟨he a _ ha, ha⟩
    | succ d ih =>
      intro i n a hi hn ha
      obtain ⟨n, rfl⟩ : ∃ m, n = m + 1 := ⟨n - 1, by omega⟩
      have := ih (i + 1) n (f i a) (by omega) (by omega) (hp i a (by omega) ha)
      refine ⟨?_, this.2⟩
      show step _ _ q = _
      rw [hs i a _ (by omega) ha, show ((i : Int) + 1) = ((i + 1 : Nat) : Int) by omega]
      exact this.1
  exact key N 0 FUEL a0 (by omega) (FUEL_lt (by unfold LIM at hN; omega)) h0

/-! ### values -/
def numB (n : Int) : Bool := decide (-1099511627775 ≤ n ∧ n ≤ 1099511627775)
theorem within_eq (x lo hi : Int) (k : Bool → Res) : impl_within x lo hi k = k (decide (lo ≤ x ∧ x ≤ hi)) := by
  unfold impl_within
  by_cases h : x ≥ lo
  · rw [decide_eq_true h, cond_true]
    congr 1
    exact decide_eq_decide.2 (by omega)
  · rw [decide_eq_false h, cond_false]
    congr 1
    exact (decide_eq_false (by omega)).symm
theorem l01Num_eq (n : Int) (k : Bool → Res) : spec_l01Num n k = k (numB n) := within_eq n _ _ k
def valB (v : V) : Bool :=
  bif v.1 == 0 then (v.2.1 == 0) && sEq v.2.2 eS
  else bif v.1 == 1 then ((v.2.1 == 0) || (v.2.1 == 1)) && sEq v.2.2 eS
  else bif v.1 == 2 then numB v.2.1 && sEq v.2.2 eS
  else bif v.1 == 3 then (v.2.1 == 0) && decide (nI v.2.2.size ≤ 30)
  else false
theorem specVal_eq (v : V) (k : Bool → Res) : spec_ValOk v k = k (valB v) := by
  unfold spec_ValOk valB
  cases v.1 == 0
  · cases v.1 == 1
    · cases v.1 == 2
      · cases v.1 == 3
        · rfl
        · cases v.2.1 == 0 <;> rfl
      · rw [cond_false, cond_false, cond_true, l01Num_eq]
        cases numB v.2.1 <;> rfl
    · cases v.2.1 == 0
      · cases v.2.1 == 1 <;> rfl
      · rfl
  · cases v.2.1 == 0 <;> rfl
theorem or_within (x : Int) : decide (0 ≤ x ∧ x ≤ 1) = ((x == 0) || (x == 1)) := by
  by_cases h : 0 ≤ x ∧ x ≤ 1
  · rw [decide_eq_true h]
    have : x = 0 ∨ x = 1 := by omega
    rcases this with rfl | rfl <;> rfl
  · rw [decide_eq_false h]
    have h1 : (x == 0) = false := by simp; omega
    have h2 : (x == 1) = false := by simp; omega
    rw [h1, h2]; rfl
theorem implVal_eq (v : V) (k : Bool → Res) : impl_ValOk v k = k (valB v) := by
  unfold impl_ValOk valB
  simp only [within_eq, or_within]
  cases v.1 == 0
  · cases v.1 == 1
    · cases v.1 == 2
      · cases v.1 == 3
        · rfl
        · cases v.2.1 == 0 <;> rfl
      · rw [cond_false, cond_false, cond_true, cond_false, cond_false, cond_true]
        show (bif numB v.2.1 then _ else _) = _
        cases numB v.2.1 <;> rfl
    · cases v.2.1 == 0
      · cases v.2.1 == 1 <;> rfl
      · rfl
  · cases v.2.1 == 0 <;> rfl

/-! ### numbers as texts -/
def dg (x : Int) : ByteArray := ofBytes [wu8 (wi64 (48 + x))]
theorem dg_size (x : Int) : (dg x).size = 1 := rfl
def digs (n : Nat) : ByteArray := if h : n < 10 then dg n else digs (n / 10) ++ dg ((n % 10 : Nat) : Int)
termination_by n
decreasing_by omega
theorem digs_lo {n : Nat} (h : n < 10) : digs n = dg n := by rw [digs, dif_pos h]
theorem digs_hi {n : Nat} (h : ¬ n < 10) : digs n = digs (n / 10) ++ dg ((n % 10 : Nat) : Int) := by rw [digs, dif_neg h]
theorem digs_size : ∀ (d n : Nat), n < 10 ^ (d + 1) → (digs n).size ≤ d + 1
  | 0, n, h => by rw [digs_lo (by omega), dg_size]; exact Nat.le_refl _
  | d + 1, n, h => by
    by_cases h1 : n < 10
    · rw [digs_lo h1, dg_size]; omega
    · rw [digs_hi h1, ByteArray.size_append, dg_size]
      have : n / 10 < 10 ^ (d + 1) := Nat.div_lt_of_lt_mul (by rw [Nat.pow_succ] at h; omega)
      have := digs_size d (n / 10) this
      omega
theorem digs_size13 {n : Nat} (h : n ≤ 1099511627775) : (digs n).size ≤ 13 := digs_size 12 n (by omega)
def numT (n : Int) : ByteArray := bif numB n then (if n < 0 then z__ ++ digs (-n).toNat else digs n.toNat) else eS
theorem numT_size (n : Int) : (numT n).size ≤ 14 := by
  unfold numT
  by_cases h : -1099511627775 ≤ n ∧ n ≤ 1099511627775
  · have hb : numB n = true := decide_eq_true h
    rw [hb, cond_true]
    split
    · rw [ByteArray.size_append]
      have := digs_size13 (n := (-n).toNat) (by omega)
      have : z__.size = 1 := rfl
      omega
    · have := digs_size13 (n := n.toNat) (by omega)
      omega
  · have hb : numB n = false := decide_eq_false h
    rw [hb, cond_false]
    show (0 : Nat) ≤ 14
    omega
theorem tdiv_nat (n : Nat) : Int.tdiv (n : Int) 10 = ((n / 10 : Nat) : Int) := by
  rw [Int.tdiv_eq_ediv_of_nonneg (by omega)]; omega
theorem tmod_nat (n : Nat) : Int.tmod (n : Int) 10 = ((n % 10 : Nat) : Int) := by
  rw [Int.tmod_eq_emod_of_nonneg (by omega)]; omega

theorem specNum_nat : ∀ (m n : Nat), n < m → n ≤ 1099511627775 → ∀ k, recN (fun _ _ => none) spec_NumText_b m (n : Int) k = k (digs n)
  | 0, n, h, _, k => by omega
  | m + 1, n, h, hn, k => by
    show spec_NumText_b (recN (fun _ _ => none) spec_NumText_b m) (n : Int) k = _
    have ih := specNum_nat m
    generalize recN (fun _ _ => none) spec_NumText_b m = self at ih ⊢
    unfold spec_NumText_b
    have hb : numB (n : Int) = true := decide_eq_true (by omega)
    rw [l01Num_eq, hb, Bool.not_true, cond_false, dec_lt_f (by omega), cond_false]
    by_cases h1 : n < 10
    · rw [dec_lt_t (by omega), cond_true, digs_lo h1]; rfl
    · rw [dec_lt_f (by omega), cond_false, both_self, tdiv_nat, tmod_nat, wi64_of (n := ((n / 10 : Nat) : Int)) (by omega) (by omega), ih (n / 10) (by omega) (by omega), digs_hi h1]
      have h2 := digs_size13 (n := n / 10) (by omega)
      show (bif lim ((digs (n / 10)).size + (dg ((n % 10 : Nat) : Int)).size) then k (digs (n / 10) ++ dg ((n % 10 : Nat) : Int)) else none) = _
      rw [dg_size, lim_of (by unfold LIM; omega), cond_true]
theorem FUEL_succ : ∃ m, FUEL = m + 1 ∧ 1099511627775 < m := by
  have h := FUEL_lt (n := 1099511627777) (by omega)
  exact ⟨FUEL - 1, by omega, by omega⟩
theorem specNum_eq (n : Int) (k : ByteArray → Res) : spec_NumText n k = k (numT n) := by
  unfold spec_NumText
  obtain ⟨m, hm, hm2⟩ := FUEL_succ
  rw [hm]
  show spec_NumText_b (recN (fun _ _ => none) spec_NumText_b m) n k = _
  by_cases h : -1099511627775 ≤ n ∧ n ≤ 1099511627775
  · have hb : numB n = true := decide_eq_true h
    by_cases h0 : n < 0
    · have ih := specNum_nat m
      generalize recN (fun _ _ => none) spec_NumText_b m = self at ih ⊢
      unfold spec_NumText_b numT
      have hsz := digs_size13 (n := (-n).toNat) (by omega)
      have hw : wi64 (0 - n) = (((-n).toNat : Nat) : Int) := by rw [wi64_of (by omega) (by omega)]; omega
      rw [l01Num_eq, hb, Bool.not_true, cond_false, dec_lt_t h0, cond_true, hw, ih _ (by omega) (by omega), lim_of (by unfold LIM; omega), cond_true, cond_true, if_pos h0]
    · have := specNum_nat (m + 1) n.toNat (by omega) (by omega) k
      rw [show ((n.toNat : Nat) : Int) = n by omega] at this
      unfold numT
      rw [hb, cond_true, if_neg h0]
      exact this
  · have hb : numB n = false := decide_eq_false h
    unfold spec_NumText_b numT
    rw [l01Num_eq, hb, Bool.not_false, cond_true, cond_false]

theorem iter_succ {V K : Type} (step : V → (V → Res) → K → Res) (m : Nat) (v : V) (q : K) : iter step (m + 1) v q = step v (fun v' => iter step m v' q) q := rfl
theorem implNum_step (self : Int → (ByteArray → Res) → Res) (n : Int) (s : ByteArray) (rec : Int × ByteArray → Res) (q : Int → ByteArray → Res) : impl_NumText_l0_s self (n, s) rec q = impl_NumText_l0_r self n s (fun n s => rec (n, s)) q := rfl

theorem implNum_loop (self : Int → (ByteArray → Res) → Res) (k : ByteArray → Res) : ∀ (m n d : Nat) (s : ByteArray), n < m → n ≤ 1099511627775 → n < 10 ^ (d + 1) → s.size + d ≤ 1000 →
    iter (impl_NumText_l0_s self) m ((n : Int), s) (fun (n_1 : Int) (s : ByteArray) => bif lim ((ByteArray.size (ofBytes [wu8 (wi64 (48 + n_1))])) + (ByteArray.size s)) then k ((ofBytes [wu8 (wi64 (48 + n_1))]) ++ s) else none) = k (digs n ++ s)
  | 0, n, d, s, h, _, _, _ => by omega
  | m + 1, n, d, s, h, hn, hd, hs => by
    rw [iter_succ, implNum_step]
    unfold impl_NumText_l0_r
    by_cases h1 : n < 10
    · have : decide ((n : Int) > 9) = false := decide_eq_false (by omega)
      rw [this, cond_false, digs_lo h1]
      show (bif lim ((dg (n : Int)).size + s.size) then k (dg (n : Int) ++ s) else none) = _
      rw [dg_size, lim_of (by unfold LIM; omega), cond_true]
    · have : decide ((n : Int) > 9) = true := decide_eq_true (by omega)
      obtain ⟨d, rfl⟩ : ∃ e, d = e + 1 := by
        cases d with
        | zero => exact absurd (by simpa using hd) h1
        | succ d => exact ⟨d, rfl⟩
      rw [this, cond_true, tdiv_nat, tmod_nat, wi64_of (n := ((n / 10 : Nat) : Int)) (by omega) (by omega)]
      show (bif lim ((dg ((n % 10 : Nat) : Int)).size + s.size) then iter (impl_NumText_l0_s self) m (((n / 10 : Nat) : Int), dg ((n % 10 : Nat) : Int) ++ s) _ else none) = _
      rw [dg_size, lim_of (by unfold LIM; omega), cond_true, implNum_loop self k m (n / 10) d _ (by omega) (by omega) (Nat.div_lt_of_lt_mul (by rw [Nat.pow_succ] at hd; omega)) (by rw [ByteArray.size_append, dg_size]; omega), digs_hi h1, ByteArray.append_assoc]

theorem app_eS (s : ByteArray) : s ++ eS = s := by
  show s ++ ByteArray.empty = s
  simp
theorem implNum_eq (n : Int) (k : ByteArray → Res) : impl_NumText n k = k (numT n) := by
  unfold impl_NumText
  obtain ⟨m, hm, hm2⟩ := FUEL_succ
  rw [hm]
  obtain ⟨m, rfl⟩ : ∃ e, m = e + 1 := ⟨m - 1, by omega⟩
  have pos : ∀ (self : Int → (ByteArray → Res) → Res) (n : Nat) (k : ByteArray → Res), n ≤ 1099511627775 → impl_NumText_b self (n : Int) k = k (digs n) := by
    intro self n k hn
    unfold impl_NumText_b impl_NumText_l0
    rw [within_eq, decide_eq_true (by omega), Bool.not_true, cond_false, dec_lt_f (by omega), cond_false]
    have := implNum_loop self k FUEL n 12 eS (FUEL_lt (by omega)) hn (by omega) (by show 0 + 12 ≤ 1000; omega)
    rw [app_eS] at this
    exact this
  show impl_NumText_b (recN (fun _ _ => none) impl_NumText_b (m + 1)) n k = _
  have ih : ∀ (n : Nat) (k : ByteArray → Res), n ≤ 1099511627775 → recN (fun _ _ => none) impl_NumText_b (m + 1) (n : Int) k = k (digs n) := fun n k hn => pos (recN (fun _ _ => none) impl_NumText_b m) n k hn
  generalize recN (fun _ _ => none) impl_NumText_b (m + 1) = self at ih ⊢
  by_cases h : -1099511627775 ≤ n ∧ n ≤ 1099511627775
  · have hb : numB n = true := decide_eq_true h
    by_cases h0 : n < 0
    · unfold impl_NumText_b numT
      have hsz := digs_size13 (n := (-n).toNat) (by omega)
      have hw : wi64 (0 - n) = (((-n).toNat : Nat) : Int) := by rw [wi64_of (by omega) (by omega)]; omega
      rw [within_eq, decide_eq_true h, Bool.not_true, cond_false, dec_lt_t h0, cond_true, hw]
      rw [ih _ _ (by omega), lim_of (by unfold LIM; omega), cond_true, hb, cond_true, if_pos h0]
    · have := pos self n.toNat k (by omega)
      rw [show ((n.toNat : Nat) : Int) = n by omega] at this
      unfold numT
      rw [hb, cond_true, if_neg h0]
      exact this
  · have hb : numB n = false := decide_eq_false h
    unfold impl_NumText_b numT
    rw [within_eq, decide_eq_false h, Bool.not_false, cond_true, hb, cond_false]
end Go.PI.L12
