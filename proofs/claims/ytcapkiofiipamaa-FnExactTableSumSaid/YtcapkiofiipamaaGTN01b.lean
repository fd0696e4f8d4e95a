/-
  Texts of numbers and values: what the program and the reference say. Lemmas; no conditions.
-/
import Derived.Test.YtcapkiofiipamaaGTN01a
import Derived.Test.YtcapkiofiipamaaK3
set_option linter.unusedVariables false
set_option linter.unusedSimpArgs false
namespace Go.PI.G
open Go Go.PI Go.Proofs

/-! ### numbers as texts -/
def dg (x : Int) : ByteArray := ofBytes [wu8 (wi64 (48 + x))]
theorem dg_size (x : Int) : (dg x).size = 1 := rfl
def digs (n : Nat) : ByteArray := if h : n < 10 then dg n else digs (n / 10) ++ dg ((n % 10 : Nat) : Int)
termination_by n
decreasing_by omega
theorem digs_lo {n : Nat} (h : n < 10) : digs n = dg n := by rw [digs, dif_pos h]
theorem digs_hi {n : Nat} (h : ¬ n < 10) : digs n = digs (n / 10) ++ dg ((n % 10 : Nat) : Int) := by rw [digs, dif_neg h]
theorem digs_size : ∀ (d n : Nat), n < 10 ^ (d + 1) → (digs n).size ≤ d + 1
  | 0, n, h => by rw [digs_lo (by omega), dg_size]; exact Nat.le_refl _
  | d + 1, n, h => by
    by_cases h1 : n < 10
    · rw [digs_lo h1, dg_size]; omega
    · rw [digs_hi h1, ByteArray.size_append, dg_size]
      have : n / 10 < 10 ^ (d + 1) := Nat.div_lt_of_lt_mul (by rw [Nat.pow_succ] at h; omega)
      have := digs_size d (n / 10) this
      omega
theorem digs_size13 {n : Nat} (h : n ≤ 1099511627775) : (digs n).size ≤ 13 := digs_size 12 n (by omega)
def numT (n : Int) : ByteArray := bif numB n then (if n < 0 then z__ ++ digs (-n).toNat else digs n.toNat) else eS
theorem numT_size (n : Int) : (numT n).size ≤ 14 := by
  unfold numT
  by_cases h : -1099511627775 ≤ n ∧ n ≤ 1099511627775
  · have hb : numB n = true := decide_eq_true h
    rw [hb, cond_true]
    split
    · rw [ByteArray.size_append]
      have := digs_size13 (n := (-n).toNat) (by omega)
      have : z__.size = 1 := rfl
      omega
    · have := digs_size13 (n := n.toNat) (by omega)
      omega
  · have hb : numB n = false := decide_eq_false h
    rw [hb, cond_false]
    show (0 : Nat) ≤ 14
    omega
theorem specNum_nat : ∀ (m n : Nat), n < m → n ≤ 1099511627775 → ∀ k, recN (fun _ _ => none) spec_NumText_b m (n : Int) k = k (digs n)
  | 0, n, h, _, k => by omega
  | m + 1, n, h, hn, k => by
    show spec_NumText_b (recN (fun _ _ => none) spec_NumText_b m) (n : Int) k = _
    have ih := specNum_nat m
    generalize recN (fun _ _ => none) spec_NumText_b m = self at ih ⊢
    unfold spec_NumText_b
    have hb : numB (n : Int) = true := decide_eq_true (by omega)
    rw [l01Num_eq, hb, Bool.not_true, cond_false, dec_lt_f (by omega), cond_false]
    by_cases h1 : n < 10
    · rw [dec_lt_t (by omega), cond_true, digs_lo h1]; rfl
    · rw [dec_lt_f (by omega), cond_false, both_self, tdiv_nat, tmod_nat, wi64_of (n := ((n / 10 : Nat) : Int)) (by omega) (by omega), ih (n / 10) (by omega) (by omega), digs_hi h1]
      have h2 := digs_size13 (n := n / 10) (by omega)
      show (bif lim ((digs (n / 10)).size + (dg ((n % 10 : Nat) : Int)).size) then k (digs (n / 10) ++ dg ((n % 10 : Nat) : Int)) else none) = _
      rw [dg_size, lim_of (by unfold LIM; omega), cond_true]
theorem FUEL_succ : ∃ m, FUEL = m + 1 ∧ 1099511627775 < m := by
  have h := FUEL_lt (n := 1099511627777) (by omega)
  exact ⟨FUEL - 1, by omega, by omega⟩
theorem specNum_eq (n : Int) (k : ByteArray → Res) : spec_NumText n k = k (numT n) := by
  unfold spec_NumText
  obtain ⟨m, hm, hm2⟩ := FUEL_succ
  rw [hm]
  show spec_NumText_b (recN (fun _ _ => none) spec_NumText_b m) n k = _
  by_cases h : -1099511627775 ≤ n ∧ n ≤ 1099511627775
  · have hb : numB n = true := decide_eq_true h
    by_cases h0 : n < 0
    · have ih := specNum_nat m
      generalize recN (fun _ _ => none) spec_NumText_b m = self at ih ⊢
      unfold spec_NumText_b numT
      have hsz := digs_size13 (n := (-n).toNat) (by omega)
      have hw : wi64 (0 - n) = (((-n).toNat : Nat) : Int) := by rw [wi64_of (by omega) (by omega)]; omega
      rw [l01Num_eq, hb, Bool.not_true, cond_false, dec_lt_t h0, cond_true, hw, ih _ (by omega) (by omega), lim_of (by unfold LIM; omega), cond_true, cond_true, if_pos h0]
    · have := specNum_nat (m + 1) n.toNat (by omega) (by omega) k
      rw [show ((n.toNat : Nat) : Int) = n by omega] at this
      unfold numT
      rw [hb, cond_true, if_neg h0]
      exact this
  · have hb : numB n = false := decide_eq_false h
    unfold spec_NumText_b numT
    rw [l01Num_eq, hb, Bool.not_false, cond_true, cond_false]

theorem implNum_step (self : Int → (ByteArray → Res) → Res) (n : Int) (s : ByteArray) (rec : Int × ByteArray → Res) (q : Int → ByteArray → Res) : impl_NumText_l0_s self (n, s) rec q = impl_NumText_l0_r self n s (fun n s => rec (n, s)) q := rfl

theorem implNum_loop (self : Int → (ByteArray → Res) → Res) (k : ByteArray → Res) : ∀ (m n d : Nat) (s : ByteArray), n < m → n ≤ 1099511627775 → n < 10 ^ (d + 1) → s.size + d ≤ 1000 →
    iter (impl_NumText_l0_s self) m ((n : Int), s) (fun (n_1 : Int) (s : ByteArray) => bif lim ((ByteArray.size (ofBytes [wu8 (wi64 (48 + n_1))])) + (ByteArray.size s)) then k ((ofBytes [wu8 (wi64 (48 + n_1))]) ++ s) else none) = k (digs n ++ s)
  | 0, n, d, s, h, _, _, _ => by omega
  | m + 1, n, d, s, h, hn, hd, hs => by
    rw [iter_succ, implNum_step]
    unfold impl_NumText_l0_r
    by_cases h1 : n < 10
    · have : decide ((n : Int) > 9) = false := decide_eq_false (by omega)
      rw [this, cond_false, digs_lo h1]
      show (bif lim ((dg (n : Int)).size + s.size) then k (dg (n : Int) ++ s) else none) = _
      rw [dg_size, lim_of (by unfold LIM; omega), cond_true]
    · have : decide ((n : Int) > 9) = true := decide_eq_true (by omega)
      obtain ⟨d, rfl⟩ : ∃ e, d = e + 1 := by
        cases d with
        | zero => exact absurd (by simpa using hd) h1
        | succ d => exact ⟨d, rfl⟩
      rw [this, cond_true, tdiv_nat, tmod_nat, wi64_of (n := ((n / 10 : Nat) : Int)) (by omega) (by omega)]
      show (bif lim ((dg ((n % 10 : Nat) : Int)).size + s.size) then iter (impl_NumText_l0_s self) m (((n / 10 : Nat) : Int), dg ((n % 10 : Nat) : Int) ++ s) _ else none) = _
      rw [dg_size, lim_of (by unfold LIM; omega), cond_true, implNum_loop self k m (n / 10) d _ (by omega) (by omega) (Nat.div_lt_of_lt_mul (by rw [Nat.pow_succ] at hd; omega)) (by rw [ByteArray.size_append, dg_size]; omega), digs_hi h1, ByteArray.append_assoc]

theorem implNum_eq (n : Int) (k : ByteArray → Res) : impl_NumText n k = k (numT n) := by
  unfold impl_NumText
  obtain ⟨m, hm, hm2⟩ := FUEL_succ
  rw [hm]
  obtain ⟨m, rfl⟩ : ∃ e, m = e + 1 := ⟨m - 1, by omega⟩
  have pos : ∀ (self : Int → (ByteArray → Res) → Res) (n : Nat) (k : ByteArray → Res), n ≤ 1099511627775 → impl_NumText_b self (n : Int) k = k (digs n) := by
    intro self n k hn
    unfold impl_NumText_b impl_NumText_l0
    rw [within_eq, decide_eq_true (by omega), Bool.not_true, cond_false, dec_lt_f (by omega), cond_false]
    have := implNum_loop self k FUEL n 12 eS (FUEL_lt (by omega)) hn (by omega) (by show 0 + 12 ≤ 1000; omega)
    rw [eS_app] at this
    exact this
  show impl_NumText_b (recN (fun _ _ => none) impl_NumText_b (m + 1)) n k = _
  have ih : ∀ (n : Nat) (k : ByteArray → Res), n ≤ 1099511627775 → recN (fun _ _ => none) impl_NumText_b (m + 1) (n : Int) k = k (digs n) := fun n k hn => pos (recN (fun _ _ => none) impl_NumText_b m) n k hn
  generalize recN (fun _ _ => none) impl_NumText_b (m + 1) = self at ih ⊢
  by_cases h : -1099511627775 ≤ n ∧ n ≤ 1099511627775
  · have hb : numB n = true := decide_eq_true h
    by_cases h0 : n < 0
    · unfold impl_NumText_b numT
      have hsz := digs_size13 (n := (-n).toNat) (by omega)
      have hw : wi64 (0 - n) = (((-n).toNat : Nat) : Int) := by rw [wi64_of (by omega) (by omega)]; omega
      rw [within_eq, decide_eq_true h, Bool.not_true, cond_false, dec_lt_t h0, cond_true, hw]
      rw [ih _ _ (by omega), lim_of (by unfold LIM; omega), cond_true, hb, cond_true, if_pos h0]
    · have := pos self n.toNat k (by omega)
      rw [show ((n.toNat : Nat) : Int) = n by omega] at this
      unfold numT
      rw [hb, cond_true, if_neg h0]
      exact this
  · have hb : numB n = false := decide_eq_false h
    unfold impl_NumText_b numT
    rw [within_eq, decide_eq_false h, Bool.not_false, cond_true, hb, cond_false]
/-! ### texts of values -/
def pB (b : Int) : Bool := bif decide (33 ≤ b ∧ b ≤ 126) then (bif (b != 39) then (b != 37) else false) else false
theorem specP_eq (b : Int) (k : Bool → Res) : spec_ValText_p0 b k = k (pB b) := by
  unfold spec_ValText_p0 pB
  by_cases h : 33 ≤ b
  · rw [decide_eq_true (show b ≥ 33 from h), cond_true]
    have : decide (b ≤ 126) = decide (33 ≤ b ∧ b ≤ 126) := decide_eq_decide.2 (by omega)
    rw [this]
    cases decide (33 ≤ b ∧ b ≤ 126)
    · rfl
    · cases b != 39 <;> rfl
  · rw [decide_eq_false (show ¬ b ≥ 33 from h), decide_eq_false (show ¬ (33 ≤ b ∧ b ≤ 126) by omega)]
    rfl
theorem implP_eq (b : Int) (h : 0 ≤ b ∧ b < 256) (k : Bool → Res) : impl_ValText_p0 b k = k (pB b) := by
  unfold impl_ValText_p0 pB
  rw [wi64_of (by omega) (by omega), within_eq]
  cases decide (33 ≤ b ∧ b ≤ 126)
  · rfl
  · cases b != 39 <;> rfl

def h1 (b : Int) : Int := bt z_0123456789abcdef (Int.tmod (wi64 (Int.tdiv (wi64 b) 16)) 16)
def h2 (b : Int) : Int := bt z_0123456789abcdef (Int.tmod (Int.tmod (wi64 b) 16) 16)
theorem hexes : ∀ b : Fin 256, (inb (shrI .u8 ((b.val : Nat) : Int) 4) 16 && inb (andI .u8 ((b.val : Nat) : Int) 15) 16 && (bt z_0123456789abcdef (shrI .u8 ((b.val : Nat) : Int) 4) == h1 ((b.val : Nat) : Int)) && (bt z_0123456789abcdef (andI .u8 ((b.val : Nat) : Int) 15) == h2 ((b.val : Nat) : Int)) &&
    inb (Int.tmod (wi64 (Int.tdiv (wi64 ((b.val : Nat) : Int)) 16)) 16) 16 && inb (Int.tmod (Int.tmod (wi64 ((b.val : Nat) : Int)) 16) 16) 16) = true := by decide +kernel
theorem hex_of {b : Int} (h : 0 ≤ b ∧ b < 256) : inb (shrI .u8 b 4) 16 = true ∧ inb (andI .u8 b 15) 16 = true ∧ bt z_0123456789abcdef (shrI .u8 b 4) = h1 b ∧ bt z_0123456789abcdef (andI .u8 b 15) = h2 b ∧
    inb (Int.tmod (wi64 (Int.tdiv (wi64 b) 16)) 16) 16 = true ∧ inb (Int.tmod (Int.tmod (wi64 b) 16) 16) 16 = true := by
  have := hexes ⟨b.toNat, by omega⟩
  simp only [Bool.and_eq_true, beq_iff_eq] at this
  rw [show ((b.toNat : Nat) : Int) = b by omega] at this
  obtain ⟨⟨⟨⟨⟨a1, a2⟩, a3⟩, a4⟩, a5⟩, a6⟩ := this
  exact ⟨a1, a2, a3, a4, a5, a6⟩
theorem bt_rng (s : ByteArray) (i : Int) : 0 ≤ bt s i ∧ bt s i < 256 := by
  unfold bt
  have := UInt8.toNat_lt (s.data.toList.getD i.toNat 0)
  omega

def gB (b : Int) : List Int := bif pB b then [b] else [37, h1 b, h2 b]
theorem gB_len (b : Int) : (gB b).length ≤ 3 := by unfold gB; cases pB b <;> simp
def outT (s : ByteArray) : List Int := foldN (fun i out => out ++ gB (bt s (i : Int))) 0 s.size [39]

theorem specText_loop (v : V) (h : v.2.2.size ≤ LIM / 4) (K : List Int → Res) : spec_ValText_l1 v FUEL [39] 0 K = K (outT v.2.2) ∧ (outT v.2.2).length ≤ 1 + 3 * v.2.2.size := by
  unfold spec_ValText_l1 outT
  unfold LIM at h
  exact fold_loop v.2.2.size (fun i out => (out, i)) (fun i out => out ++ gB (bt v.2.2 (i : Int))) (fun i out => out.length ≤ 1 + 3 * i) (step := spec_ValText_l1_s v) K K [39] (by unfold LIM; omega) (by simp) (fun i out hi ho => by
    have := gB_len (bt v.2.2 (i : Int)); simp only [List.length_append]; omega) (fun i out rec hi ho => by
    show spec_ValText_l1_r v _ _ _ _ = _
    dsimp only
    unfold spec_ValText_l1_r spec_l01Hex
    obtain ⟨a1, a2, a3, a4, a5, a6⟩ := hex_of (bt_rng v.2.2 (i : Int))
    rw [nI_lt hi, cond_true, inb_of (by omega) (by omega), cond_true, specP_eq, wi64_of (n := (i : Int) + 1) (by omega) (by omega)]
    unfold gB
    cases pB (bt v.2.2 (i : Int))
    · dsimp only
      rw [cond_false, a5, cond_true, a6, cond_true, lim_of (by unfold LIM; omega), cond_true, cond_false]
      rfl
    · dsimp only
      rw [cond_true, lim_of (by unfold LIM; omega), cond_true, cond_true]) (fun out rec ho => by
    show spec_ValText_l1_r v _ _ _ _ = _
    dsimp only
    unfold spec_ValText_l1_r
    rw [nI_ge, cond_false])
theorem implText_loop (v : V) (h : v.2.2.size ≤ LIM / 4) (K : List Int → Res) : impl_ValText_l1 v FUEL [39] 0 K = K (outT v.2.2) := by
  unfold impl_ValText_l1 outT
  unfold LIM at h
  exact (fold_loop v.2.2.size (fun i out => (out, i)) (fun i out => out ++ gB (bt v.2.2 (i : Int))) (fun i out => out.length ≤ 1 + 3 * i) (step := impl_ValText_l1_s v) K K [39] (by unfold LIM; omega) (by simp) (fun i out hi ho => by
    have := gB_len (bt v.2.2 (i : Int)); simp only [List.length_append]; omega) (fun i out rec hi ho => by
    show impl_ValText_l1_r v _ _ _ _ = _
    dsimp only
    unfold impl_ValText_l1_r
    obtain ⟨a1, a2, a3, a4, a5, a6⟩ := hex_of (bt_rng v.2.2 (i : Int))
    rw [nI_lt hi, cond_true, inb_of (by omega) (by omega), cond_true, implP_eq _ (bt_rng _ _), wi64_of (n := (i : Int) + 1) (by omega) (by omega)]
    unfold gB
    cases pB (bt v.2.2 (i : Int))
    · dsimp only
      rw [cond_false, a1, cond_true, a2, cond_true, lim_of (by unfold LIM; omega), cond_true, cond_false, a3, a4]
    · dsimp only
      rw [cond_true, lim_of (by unfold LIM; omega), cond_true, cond_true]) (fun out rec ho => by
    show impl_ValText_l1_r v _ _ _ _ = _
    dsimp only
    unfold impl_ValText_l1_r
    rw [nI_ge, cond_false])).1

def valT (v : V) : ByteArray := bif valB v then (bif v.1 == 0 then z_null else bif v.1 == 1 then (bif v.2.1 == 1 then z_true else z_false) else bif v.1 == 2 then numT v.2.1 else ofBytes (outT v.2.2 ++ [39])) else eS
theorem valB_small {v : V} (hb : valB v = true) (h0 : (v.1 == 0) = false) (h1 : (v.1 == 1) = false) (h2 : (v.1 == 2) = false) : v.2.2.size ≤ 30 := by
  unfold valB at hb
  rw [h0, h1, h2, cond_false, cond_false, cond_false] at hb
  cases h3 : v.1 == 3
  · rw [h3, cond_false] at hb; cases hb
  · rw [h3, cond_true, Bool.and_eq_true, decide_eq_true_eq] at hb
    have := hb.2
    unfold nI at this
    omega
theorem valT_size (v : V) : (valT v).size ≤ 100 := by
  unfold valT
  cases hb : valB v
  · show (0 : Nat) ≤ 100; omega
  · rw [cond_true]
    cases h0 : v.1 == 0
    · cases h1 : v.1 == 1
      · cases h2 : v.1 == 2
        · rw [cond_false, cond_false, cond_false, ofBytes_size]
          have hs := valB_small hb h0 h1 h2
          have := (specText_loop v (by unfold LIM; omega) (fun _ => none)).2
          simp only [List.length_append, List.length_cons, List.length_nil]
          omega
        · rw [cond_false, cond_false, cond_true]
          have := numT_size v.2.1
          omega
      · rw [cond_false, cond_true]
        cases v.2.1 == 1
        · show (5 : Nat) ≤ 100; omega
        · show (4 : Nat) ≤ 100; omega
    · show (4 : Nat) ≤ 100; omega
theorem specT_eq (v : V) (k : ByteArray → Res) : spec_ValText v k = k (valT v) := by
  unfold spec_ValText valT
  rw [specVal_eq]
  cases hb : valB v
  · rfl
  · rw [Bool.not_true, cond_false, cond_true]
    cases h0 : v.1 == 0
    · cases h1 : v.1 == 1
      · cases h2 : v.1 == 2
        · have hs := valB_small hb h0 h1 h2
          obtain ⟨e1, e2⟩ := specText_loop v (by unfold LIM; omega) (fun (out : List Int) => bif lim ((List.length out) + 1) then k (ofBytes (out ++ [39])) else none)
          rw [cond_false, cond_false, cond_false, e1, lim_of (by unfold LIM; omega), cond_true, cond_false, cond_false, cond_false]
        · rw [cond_false, cond_false, cond_true, specNum_eq, cond_false, cond_false, cond_true]
      · unfold spec_l01Bool
        cases v.2.1 == 1 <;> rfl
    · rfl
theorem implT_eq (v : V) (k : ByteArray → Res) : impl_ValText v k = k (valT v) := by
  unfold impl_ValText valT
  rw [implVal_eq]
  cases hb : valB v
  · rfl
  · rw [Bool.not_true, cond_false, cond_true]
    cases h0 : v.1 == 0
    · cases h1 : v.1 == 1
      · cases h2 : v.1 == 2
        · have hs := valB_small hb h0 h1 h2
          have e1 := implText_loop v (by unfold LIM; omega) (fun (out : List Int) => bif lim ((List.length out) + 1) then k (ofBytes (out ++ [39])) else none)
          have e2 := (specText_loop v (by unfold LIM; omega) (fun _ => none)).2
          rw [cond_false, cond_false, cond_false, e1, lim_of (by unfold LIM; omega), cond_true, cond_false, cond_false, cond_false]
        · rw [cond_false, cond_false, cond_true, implNum_eq, cond_false, cond_false, cond_true]
      · unfold impl_boolText
        cases v.2.1 == 1 <;> rfl
    · rfl

end Go.PI.G
