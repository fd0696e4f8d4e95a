/-
  What the exact laws do with an argument, on: steps of the walks. Lemmas; no conditions.
-/
import Derived.Test.YtcapkiofiipamaaK2
import Derived.Test.YtcapkiofiipamaaPc
set_option linter.unusedVariables false
namespace Go.PI.G
open Go Go.PI

theorem szR_zero {left : Int} (h : 0 ≤ left) : szR left 0 = left := by unfold szR; rw [if_pos (by omega)]; omega
/-- A budget less a text, less a part; what is left goes on. -/
theorem sz_str {left : Int} {n rest : Nat} {F : Int → Res} {k : Int → Res} (h0 : 0 ≤ left) (h1 : left ≤ 1048576) (hn : n ≤ maxLen) (hF : (n : Int) ≤ left → F (left - n) = k (szR (left - n) rest)) :
    (bif decide (wi64 (left - nI n) < 0) then k (-1) else F (wi64 (left - nI n))) = k (szR left (n + rest)) := by
  unfold maxLen at hn
  rw [wi64_of (by unfold nI; omega) (by unfold nI; omega)]
  unfold nI
  by_cases h : (n : Int) ≤ left
  · rw [dec_lt_f (by omega), cond_false, hF h, szR_step h]
  · rw [dec_lt_t (by omega), cond_true, szR_stop h]
theorem sz_sub {left : Int} {n rest : Nat} {F : Int → Res} {k : Int → Res} (h0 : 0 ≤ left) (h1 : left ≤ 1048576) (hF : (n : Int) ≤ left → F (left - n) = k (szR (left - n) rest)) :
    (bif decide (szR left n < 0) then k (-1) else F (szR left n)) = k (szR left (n + rest)) := by
  by_cases h : (n : Int) ≤ left
  · rw [szR_pos h, dec_lt_f (by omega), cond_false, hF h, szR_step h]
  · rw [szR_neg h, dec_lt_t (by omega), cond_true, szR_stop h]
theorem sz_end {left : Int} {k : Int → Res} (h0 : 0 ≤ left) : k left = k (szR left 0) := by rw [szR_zero h0]

theorem inb_nat {i n : Nat} (h : i < n) : inb (i : Int) n = true := inb_of (by omega) (by omega)
theorem wi64_in {n : Int} (h : -9223372036854775808 ≤ n ∧ n < 9223372036854775808) : wi64 n = n := wi64_of h.1 h.2
theorem tdiv_nat (n : Nat) : Int.tdiv (n : Int) 10 = ((n / 10 : Nat) : Int) := by
  rw [Int.tdiv_eq_ediv_of_nonneg (by omega)]; omega
theorem tmod_nat (n : Nat) : Int.tmod (n : Int) 10 = ((n % 10 : Nat) : Int) := by
  rw [Int.tmod_eq_emod_of_nonneg (by omega)]; omega
theorem digt_lo {n : Nat} (h : n < 10) : digt n = dgt n := by rw [digt, dif_pos h]
theorem digt_hi {n : Nat} (h : ¬ n < 10) : digt n = digt (n / 10) ++ dgt ((n % 10 : Nat) : Int) := by rw [digt, dif_neg h]
theorem digt_size : ∀ (d n : Nat), n < 10 ^ (d + 1) → (digt n).size ≤ d + 1
  | 0, n, h => by rw [digt_lo (by omega), dgt_size]; exact Nat.le_refl _
  | d + 1, n, h => by
    by_cases h1 : n < 10
    · rw [digt_lo h1, dgt_size]; omega
    · rw [digt_hi h1, ByteArray.size_append, dgt_size]
      have : n / 10 < 10 ^ (d + 1) := Nat.div_lt_of_lt_mul (by rw [Nat.pow_succ] at h; omega)
      have := digt_size d (n / 10) this
      omega
theorem eS_app (s : ByteArray) : s ++ eS = s := by
  show s ++ ByteArray.empty = s
  simp
theorem app_eS (s : ByteArray) : eS ++ s = s := by
  show ByteArray.empty ++ s = s
  simp
end Go.PI.G
