/-
  Stores and their keys: what the program and the reference say. Lemmas; no conditions.
-/
import Derived.Test.YtcapkiofiipamaaGKL04
import Derived.Test.YtcapkiofiipamaaGKL18
import Derived.Test.YtcapkiofiipamaaN03
set_option linter.unusedVariables false
set_option linter.unusedSimpArgs false
namespace Go.PI.G
open Go Go.PI Go.Proofs

theorem msr_DB {d : DB} (h : msr yDB d ≤ 1048576) : msr (.slice yT) d.1 ≤ 1048576 ∧ d.1.length ≤ 1048576 ∧ d.2.length ≤ 1048576 ∧ (∀ t ∈ d.1, msr yT t ≤ 1048576) ∧ ∀ l ∈ d.2, l.length ≤ 1048576 := by
  have h1 : msr yDB d = msr (.slice yT) d.1 + msr (.slice (.slice (.slice yV))) d.2 := rfl
  have h2 : msr (.slice yT) d.1 ≤ 1048576 := by omega
  have h3 : msr (.slice (.slice (.slice yV))) d.2 ≤ 1048576 := by omega
  exact ⟨h2, msr_len h2, msr_len h3, fun t ht => msr_mem h2 ht, fun l hl => msr_len (msr_mem h3 hl)⟩
theorem specDb_eq (d : DB) (h : msr yDB d ≤ 1048576) (k : Bool → Res) : spec_DbOk d k = k (dbB d) := by
  obtain ⟨m1, m2, m3, m4, m5⟩ := msr_DB h
  unfold spec_DbOk dbB
  rw [specCat_eq _ m1]
  cases catB d.1
  · rfl
  · rw [Bool.not_true, cond_false, Bool.true_and]
    by_cases hl : d.2.length = d.1.length
    · have hb : (nI d.2.length != nI d.1.length) = false := by rw [hl, bne_f]
      rw [hb, cond_false, decide_eq_true hl, Bool.true_and]
      unfold spec_DbOk_l0
      have := anyI_loop d.1 (fun i => i) (fun i t => !rowsB t (nth [] d.2 (i : Int))) (step := spec_DbOk_l0_s d.1 (nI d.1.length) d) ((fun (_ : Unit) => k true), (fun (_ : Unit) => k false)) (k true) (k false) (by unfold LIM; omega) (fun i rec hi => by
        show spec_DbOk_l0_r _ _ d _ _ _ _ = _
        unfold spec_DbOk_l0_r
        rw [nI_lt hi, cond_true, inb_nat hi, cond_true, inb_nat (hl ▸ hi), cond_true, nth_nat _ _ _ hi, specRows_eq _ (m4 _ (List.getElem_mem hi)), wi64_in (n := (i : Int) + 1) (by omega)]) (fun rec => by
        show spec_DbOk_l0_r _ _ d _ _ _ _ = _
        unfold spec_DbOk_l0_r
        rw [nI_ge, cond_false])
      refine this.trans ?_
      cases anyI (fun i t => !rowsB t (nth [] d.2 (i : Int))) 0 d.1 <;> rfl
    · have hb : (nI d.2.length != nI d.1.length) = true := by unfold nI; simp; omega
      rw [hb, cond_true, decide_eq_false hl, Bool.false_and]
theorem implDb_eq (d : DB) (h : msr yDB d ≤ 1048576) (k : Bool → Res) : impl_DbOk d k = k (dbB d) := by
  obtain ⟨m1, m2, m3, m4, m5⟩ := msr_DB h
  unfold impl_DbOk dbB
  rw [implCat_eq _ m1]
  cases catB d.1
  · rfl
  · rw [Bool.not_true, cond_false, Bool.true_and]
    by_cases hl : d.2.length = d.1.length
    · have hb : (nI d.2.length != nI d.1.length) = false := by rw [hl, bne_f]
      rw [hb, cond_false, decide_eq_true hl, Bool.true_and]
      unfold impl_DbOk_l0
      have := anyI_loop d.1 (fun i => i) (fun i t => !rowsB t (nth [] d.2 (i : Int))) (step := impl_DbOk_l0_s d.1 (nI d.1.length) d) ((fun (_ : Unit) => k true), (fun (_ : Unit) => k false)) (k true) (k false) (by unfold LIM; omega) (fun i rec hi => by
        show impl_DbOk_l0_r _ _ d _ _ _ _ = _
        unfold impl_DbOk_l0_r
        rw [nI_lt hi, cond_true, inb_nat hi, cond_true, inb_nat (hl ▸ hi), cond_true, nth_nat _ _ _ hi, implRows_eq _ (m4 _ (List.getElem_mem hi)), wi64_in (n := (i : Int) + 1) (by omega)]) (fun rec => by
        show impl_DbOk_l0_r _ _ d _ _ _ _ = _
        unfold impl_DbOk_l0_r
        rw [nI_ge, cond_false])
      refine this.trans ?_
      cases anyI (fun i t => !rowsB t (nth [] d.2 (i : Int))) 0 d.1 <;> rfl
    · have hb : (nI d.2.length != nI d.1.length) = true := by unfold nI; simp; omega
      rw [hb, cond_true, decide_eq_false hl, Bool.false_and]
theorem dbB_parts {d : DB} (h : dbB d = true) : catB d.1 = true ∧ d.2.length = d.1.length ∧ ∀ (i : Nat) (hi : i < d.1.length) (hi' : i < d.2.length), rowsB d.1[i] d.2[i] = true := by
  unfold dbB at h
  simp only [Bool.and_eq_true, decide_eq_true_eq, Bool.not_eq_true'] at h
  refine ⟨h.1, h.2.1, fun i hi hi' => ?_⟩
  have := anyI_false d.1 0 h.2.2 i hi
  rw [Bool.not_eq_false', show 0 + i = i by omega, nth_nat _ _ _ hi'] at this
  exact this
theorem specKeys_eq (d : DB) (h : msr yDB d ≤ 1048576) (n : ByteArray) (k : List (List V) → Res) : spec_Keys d n k = k (keysV d n) := by
  obtain ⟨m1, m2, m3, m4, m5⟩ := msr_DB h
  unfold spec_Keys keysV
  rw [specTabAt_eq _ _ (by unfold LIM; omega), specDb_eq d h]
  cases hd : dbB d
  · rfl
  · rw [Bool.not_true, cond_false, Bool.true_and]
    have hr := tabAt_range d.1 n
    by_cases h0 : tabAt d.1 n < 0
    · rw [decide_eq_true h0]; rfl
    · obtain ⟨q1, q2, q3⟩ := dbB_parts hd
      obtain ⟨i, hi⟩ : ∃ i : Nat, tabAt d.1 n = (i : Int) := ⟨(tabAt d.1 n).toNat, by omega⟩
      have h1 : i < d.1.length := by omega
      have h2 : i < d.2.length := by omega
      have hrows := q3 i h1 h2
      obtain ⟨r1, r2, r3⟩ := rowsB_parts hrows
      rw [decide_eq_false h0, cond_false, Bool.not_false, cond_true, hi, inb_nat h2, cond_true, nth_nat _ _ _ h2, nth_nat _ _ _ h1]
      unfold spec_Keys_l0
      have := flat_loop d.2[i] (fun i out => (out, i)) (fun r => [keyV d.1[i] r]) 1048576 [] (step := spec_Keys_l0_s (i : Int) d.2[i] (nI d.2[i].length) d) (fun out => k out) (fun out => k out) (by unfold LIM; omega) (fun j hj _ => by
        rw [flat_one, List.nil_append, List.length_map, List.length_take]; omega) (by simp) (fun j out rec hj ho _ => by
        show spec_Keys_l0_r _ _ _ d _ _ _ _ = _
        unfold spec_Keys_l0_r
        have hlo : out.length = j := by
          rw [ho, flat_one, List.nil_append, List.length_map, List.length_take]; omega
        dsimp only
        rw [nI_lt hj, cond_true, inb_nat hj, cond_true, inb_nat h1, cond_true, nth_nat _ _ _ hj, nth_nat _ _ _ h1, specKey_eq _ (m4 _ (List.getElem_mem h1)) r1 _ (rowB_len (r3 _ (List.getElem_mem hj))), lim_of (by unfold LIM; omega), cond_true, wi64_in (n := (j : Int) + 1) (by omega)]) (fun out rec => by
        show spec_Keys_l0_r _ _ _ d _ _ _ _ = _
        unfold spec_Keys_l0_r
        dsimp only
        rw [nI_ge, cond_false])
      refine this.trans ?_
      rw [flat_one, List.nil_append]
theorem implKeys_eq (d : DB) (h : msr yDB d ≤ 1048576) (n : ByteArray) (k : List (List V) → Res) : impl_Keys d n k = k (keysV d n) := by
  obtain ⟨m1, m2, m3, m4, m5⟩ := msr_DB h
  unfold impl_Keys keysV
  rw [implTabAt_eq _ _ (by unfold LIM; omega), implDb_eq d h]
  cases hd : dbB d
  · rfl
  · rw [Bool.not_true, cond_false, Bool.true_and]
    have hr := tabAt_range d.1 n
    by_cases h0 : tabAt d.1 n < 0
    · rw [decide_eq_true h0]; rfl
    · obtain ⟨q1, q2, q3⟩ := dbB_parts hd
      obtain ⟨i, hi⟩ : ∃ i : Nat, tabAt d.1 n = (i : Int) := ⟨(tabAt d.1 n).toNat, by omega⟩
      have h1 : i < d.1.length := by omega
      have h2 : i < d.2.length := by omega
      have hrows := q3 i h1 h2
      obtain ⟨r1, r2, r3⟩ := rowsB_parts hrows
      rw [decide_eq_false h0, cond_false, Bool.not_false, cond_true, hi, inb_nat h2, cond_true, nth_nat _ _ _ h2, nth_nat _ _ _ h1]
      unfold impl_Keys_l0
      have := flat_loop d.2[i] (fun i out => (out, i)) (fun r => [keyV d.1[i] r]) 1048576 [] (step := impl_Keys_l0_s (i : Int) d.2[i] (nI d.2[i].length) d) (fun out => k out) (fun out => k out) (by unfold LIM; omega) (fun j hj _ => by
        rw [flat_one, List.nil_append, List.length_map, List.length_take]; omega) (by simp) (fun j out rec hj ho _ => by
        show impl_Keys_l0_r _ _ _ d _ _ _ _ = _
        unfold impl_Keys_l0_r
        have hlo : out.length = j := by
          rw [ho, flat_one, List.nil_append, List.length_map, List.length_take]; omega
        dsimp only
        rw [nI_lt hj, cond_true, inb_nat hj, cond_true, inb_nat h1, cond_true, nth_nat _ _ _ hj, nth_nat _ _ _ h1, implKey_eq _ (m4 _ (List.getElem_mem h1)) r1 _ (rowB_len (r3 _ (List.getElem_mem hj))), lim_of (by unfold LIM; omega), cond_true, wi64_in (n := (j : Int) + 1) (by omega)]) (fun out rec => by
        show impl_Keys_l0_r _ _ _ d _ _ _ _ = _
        unfold impl_Keys_l0_r
        dsimp only
        rw [nI_ge, cond_false])
      refine this.trans ?_
      rw [flat_one, List.nil_append]

/-! ### how much keys hold -/
theorem keysUp_len {l : List C} : (ks : List ByteArray) → (last : Int) → last < (l.length : Int) → keysUp l last ks = true → last + (ks.length : Int) < (l.length : Int)
  | [], last, h0, _ => by simpa using h0
  | q :: ks, last, h0, h => by
    simp only [keysUp, Bool.and_eq_true, Bool.not_eq_true', decide_eq_false_iff_not] at h
    have h1 := keysUp_len ks (colAt l q) (colAt_range l q).2 h.2.2
    rw [List.length_cons]
    omega
theorem keys_le {t : T} (h : tabB t = true) : t.2.2.length ≤ 8 := by
  have hp := tabB_parts h
  have := keysUp_len t.2.2 (-1) (by omega) hp.2.2.2.2.2
  omega
theorem fits_valB {c : C} {v : V} (h : fits c v = true) : valB v = true := by
  unfold fits at h
  rw [Bool.and_eq_true] at h
  exact h.1
theorem rowB_get {l : List C} {r : List V} (h : rowB l r = true) (i : Nat) (hi : i < l.length) : valB (nth zV r (i : Int)) = true := by
  unfold rowB at h
  simp only [Bool.and_eq_true, Bool.not_eq_true'] at h
  have := anyI_false l 0 h.2 i hi
  rw [Bool.not_eq_false', show 0 + i = i by omega] at this
  exact fits_valB this
theorem msr_slice_le {e : Ty} {l : List (El e)} {n B : Nat} (hl : l.length ≤ n) (hx : ∀ x ∈ l, msr e x ≤ B) : msr (.slice e) l ≤ n + n * B := by
  have h1 : msr (.slice e) l = l.length + (l.map (msr e)).sum := rfl
  have h2 : ∀ (l : List (El e)), (∀ x ∈ l, msr e x ≤ B) → (l.map (msr e)).sum ≤ l.length * B := by
    intro l
    induction l with
    | nil => intro _; simp
    | cons x l ih =>
      intro hx
      have e1 := hx x (by simp)
      have e2 := ih fun y hy => hx y (List.mem_cons_of_mem _ hy)
      simp only [List.map_cons, List.sum_cons, List.length_cons]
      rw [Nat.add_mul]; omega
  have h3 := h2 l hx
  have h4 : l.length * B ≤ n * B := Nat.mul_le_mul_right _ hl
  omega
theorem key_msr {t : T} {r : List V} (ht : tabB t = true) (hr : rowB t.2.1 r = true) : msr (.slice yV) (keyV t r) ≤ 248 := by
  refine msr_slice_le (n := 8) (B := 30) (by rw [keyV_len]; exact keys_le ht) (fun v hv => ?_)
  obtain ⟨n, hn, rfl⟩ := List.mem_map.1 hv
  have hk := keysUp_range t.2.2 (-1) (by omega) (tabB_parts ht).2.2.2.2.2 n hn
  have hv := rowB_get hr (colAt t.2.1 n).toNat (by omega)
  rw [show (((colAt t.2.1 n).toNat : Nat) : Int) = colAt t.2.1 n by omega] at hv
  have hs := valB_size hv
  have : msr yV (nth zV r (colAt t.2.1 n)) = 0 + (0 + (nth zV r (colAt t.2.1 n)).2.2.size) := rfl
  omega
theorem keysV_msr (d : DB) (n : ByteArray) : msr (.slice (.slice yV)) (keysV d n) ≤ 1048576 := by
  unfold keysV
  cases hd : dbB d
  · exact Nat.zero_le _
  · by_cases h0 : tabAt d.1 n < 0
    · rw [decide_eq_true h0]; exact Nat.zero_le _
    · obtain ⟨q1, q2, q3⟩ := dbB_parts hd
      have hr := tabAt_range d.1 n
      obtain ⟨i, hi⟩ : ∃ i : Nat, tabAt d.1 n = (i : Int) := ⟨(tabAt d.1 n).toNat, by omega⟩
      have h1 : i < d.1.length := by omega
      have h2 : i < d.2.length := by omega
      obtain ⟨r1, r2, r3⟩ := rowsB_parts (q3 i h1 h2)
      rw [decide_eq_false h0, Bool.not_false, Bool.and_true, cond_true, hi, nth_nat _ _ _ h2, nth_nat _ _ _ h1]
      have := msr_slice_le (e := .slice yV) (l := d.2[i].map (keyV d.1[i])) (n := 60) (B := 248) (by rw [List.length_map]; exact r2) (fun x hx => by
        obtain ⟨r, hr, rfl⟩ := List.mem_map.1 hx
        exact key_msr r1 (r3 r hr))
      exact Nat.le_trans this (by omega)
end Go.PI.G
