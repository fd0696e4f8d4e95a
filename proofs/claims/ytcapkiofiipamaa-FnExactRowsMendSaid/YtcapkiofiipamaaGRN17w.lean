/-
  How much the statements of one table hold. Lemmas; no conditions.
-/
import Derived.Test.YtcapkiofiipamaaGRN17
set_option linter.unusedVariables false
set_option linter.unusedSimpArgs false
namespace Go.PI.G
open Go Go.PI

abbrev yST : Ty := .pair (.int .i64) (.pair .str (.pair (.slice yV) (.pair (.slice yV) (.pair (.int .i64) (.pair .str (.pair (.slice yC) (.pair (.slice .str) (.pair .str .str))))))))
theorem keysUp_len' {l : List C} : (ks : List ByteArray) → (last : Int) → last < (l.length : Int) → keysUp l last ks = true → last + (ks.length : Int) < (l.length : Int)
  | [], last, h0, _ => by simpa using h0
  | q :: ks, last, h0, h => by
    simp only [keysUp, Bool.and_eq_true, Bool.not_eq_true', decide_eq_false_iff_not] at h
    have h1 := keysUp_len' ks (colAt l q) (colAt_range l q).2 h.2.2
    rw [List.length_cons]
    omega
theorem keys_le' {t : T} (h : tabB t = true) : t.2.2.length ≤ 8 := by
  have hp := tabB_parts h
  have := keysUp_len' t.2.2 (-1) (by omega) hp.2.2.2.2.2
  omega
theorem rowB_get' {l : List C} {r : List V} (h : rowB l r = true) (i : Nat) (hi : i < l.length) : valB (nth zV r (i : Int)) = true := by
  unfold rowB at h
  simp only [Bool.and_eq_true, Bool.not_eq_true'] at h
  have := anyI_false l 0 h.2 i hi
  rw [Bool.not_eq_false', show 0 + i = i by omega] at this
  unfold fits at this
  rw [Bool.and_eq_true] at this
  exact this.1
theorem msr_le {e : Ty} {l : List (El e)} {n B : Nat} (hl : l.length ≤ n) (hx : ∀ x ∈ l, msr e x ≤ B) : msr (.slice e) l ≤ n + n * B := by
  have h1 : msr (.slice e) l = l.length + (l.map (msr e)).sum := rfl
  have h2 : ∀ (l : List (El e)), (∀ x ∈ l, msr e x ≤ B) → (l.map (msr e)).sum ≤ l.length * B := by
    intro l
    induction l with
    | nil => intro _; simp
    | cons x l ih =>
      intro hx
      have e1 := hx x (by simp)
      have e2 := ih fun y hy => hx y (List.mem_cons_of_mem _ hy)
      simp only [List.map_cons, List.sum_cons, List.length_cons]
      rw [Nat.add_mul]; omega
  have h3 := h2 l hx
  have h4 : l.length * B ≤ n * B := Nat.mul_le_mul_right _ hl
  omega
theorem val_msr {v : V} (h : valB v = true) : msr yV v ≤ 30 := by
  have hs := valB_size h
  have : msr yV v = 0 + (0 + v.2.2.size) := rfl
  omega
theorem key_msr' {t : T} {r : List V} (ht : tabB t = true) (hr : rowB t.2.1 r = true) : msr (.slice yV) (keyV t r) ≤ 248 := by
  refine msr_le (n := 8) (B := 30) (by rw [keyV_len]; exact keys_le' ht) (fun v hv => ?_)
  obtain ⟨n, hn, rfl⟩ := List.mem_map.1 hv
  have hk := keysUp_range t.2.2 (-1) (by omega) (tabB_parts ht).2.2.2.2.2 n hn
  have hv := rowB_get' hr (colAt t.2.1 n).toNat (by omega)
  rw [show (((colAt t.2.1 n).toNat : Nat) : Int) = colAt t.2.1 n by omega] at hv
  exact val_msr hv
theorem row_msr {t : T} {r : List V} (ht : tabB t = true) (hr : rowB t.2.1 r = true) : msr (.slice yV) r ≤ 248 := by
  have hl := rowB_len hr
  have hp := tabB_parts ht
  refine msr_le (n := 8) (B := 30) (by omega) (fun v hv => ?_)
  obtain ⟨i, hi, rfl⟩ := List.getElem_of_mem hv
  have := rowB_get' hr i (by omega)
  rw [nth_nat _ _ _ hi] at this
  exact val_msr this
theorem word_le {s : ByteArray} (h : wordB s = true) : s.size ≤ 8 := by
  unfold wordB at h
  simp only [Bool.and_eq_true, decide_eq_true_eq] at h
  exact h.2.2
theorem st_msr (n : Int) (s : ByteArray) (a b : List V) : msr yST (n, s, a, b, 0, eS, [], [], eS, eS) = s.size + (msr (.slice yV) a + msr (.slice yV) b) := by
  have : msr yST (n, s, a, b, 0, eS, [], [], eS, eS) = 0 + (s.size + (msr (.slice yV) a + (msr (.slice yV) b + (0 + (0 + (0 + (0 + (0 + 0)))))))) := rfl
  omega
theorem nil_msr : msr (.slice yV) [] = 0 := rfl
theorem mendS_msr (t : T) (a b : List (List V)) (ha : rowsB t a = true) (hb : rowsB t b = true) : msr (.slice yST) (mendS t a b) ≤ 1048576 := by
  obtain ⟨r1, r2, r3⟩ := rowsB_parts hb
  obtain ⟨q1, q2, q3⟩ := rowsB_parts ha
  have hw := word_le (tabB_parts r1).1
  refine Nat.le_trans (msr_le (n := 180) (B := 600) (mendS_le t a b q2 r2) fun x hx => ?_) (by omega)
  unfold mendS at hx
  rcases List.mem_append.1 hx with hx | hx
  · rcases List.mem_append.1 hx with hx | hx
    · obtain ⟨r, hr, hx⟩ := List.mem_flatMap.1 hx
      have h1 := key_msr' q1 (q3 r hr)
      unfold goneS at hx
      cases hc : decide (rowAtV t b (keyV t r) < 0)
      · rw [hc] at hx; cases hx
      · rw [hc, cond_true, List.mem_singleton] at hx
        subst hx
        rw [st_msr, nil_msr]; omega
    · obtain ⟨r, hr, hx⟩ := List.mem_flatMap.1 hx
      have h1 := key_msr' r1 (r3 r hr)
      have h2 := row_msr r1 (r3 r hr)
      unfold changedS at hx
      cases hc : decide (rowAtV t a (keyV t r) ≥ 0)
      · rw [hc] at hx; cases hx
      · rw [hc, cond_true] at hx
        cases hd : alike zV veq (nth [] a (rowAtV t a (keyV t r))) r
        · rw [hd, Bool.not_false, cond_true, List.mem_singleton] at hx
          subst hx
          rw [st_msr]; omega
        · rw [hd] at hx; cases hx
  · obtain ⟨r, hr, hx⟩ := List.mem_flatMap.1 hx
    have h2 := row_msr r1 (r3 r hr)
    unfold newS at hx
    cases hc : decide (rowAtV t a (keyV t r) < 0)
    · rw [hc] at hx; cases hx
    · rw [hc, cond_true, List.mem_singleton] at hx
      subst hx
      rw [st_msr, nil_msr]; omega
end Go.PI.G
