/-
  The text of a mark. Lemmas; no conditions.
-/
import Derived.Test.YtcapkiofiipamaaGRTText
import Derived.Test.YtcapkiofiipamaaK3
set_option linter.unusedVariables false
namespace Go.PI.G
open Go Go.PI Go.Proofs

theorem markText_loop (k : ByteArray → Res) : ∀ (m n d : Nat) (s : ByteArray), n < m → 0 < n → n ≤ 4294967296 → n < 10 ^ (d + 1) → s.size + d ≤ 1000 →
    iter laws_markText_l0_s m ((n : Int), s) k = k (digt n ++ s)
  | 0, n, d, s, h, _, _, _, _ => by omega
  | m + 1, n, d, s, h, hn, hb, hd, hs => by
    rw [iter_succ]
    show laws_markText_l0_r _ _ _ _ = _
    unfold laws_markText_l0_r
    have h9 : decide ((n : Int) > 0) = true := decide_eq_true (by omega)
    rw [h9, cond_true, tdiv_nat, tmod_nat, wi64_of (n := ((n / 10 : Nat) : Int)) (by omega) (by omega)]
    show (bif lim ((dgt ((n % 10 : Nat) : Int)).size + s.size) then iter laws_markText_l0_s m (((n / 10 : Nat) : Int), dgt ((n % 10 : Nat) : Int) ++ s) k else none) = _
    rw [dgt_size, lim_of (by unfold LIM; omega), cond_true]
    by_cases h1 : n < 10
    · have h10 : n / 10 = 0 := by omega
      have h11 : n % 10 = n := by omega
      rw [h10, h11, digt_lo h1]
      obtain ⟨m, rfl⟩ : ∃ e, m = e + 1 := ⟨m - 1, by omega⟩
      rw [iter_succ]
      show laws_markText_l0_r _ _ _ _ = _
      unfold laws_markText_l0_r
      have h0 : decide (((0 : Nat) : Int) > 0) = false := decide_eq_false (by omega)
      rw [h0, cond_false]
    · obtain ⟨d, rfl⟩ : ∃ e, d = e + 1 := by
        cases d with
        | zero => exact absurd (by simpa using hd) h1
        | succ d => exact ⟨d, rfl⟩
      rw [markText_loop k m (n / 10) d _ (by omega) (by omega) (by omega) (Nat.div_lt_of_lt_mul (by rw [Nat.pow_succ] at hd; omega)) (by rw [ByteArray.size_append, dgt_size]; omega), digt_hi h1, ByteArray.append_assoc]
theorem markText_eq (k : Int) (h : 1 ≤ k ∧ k ≤ 4294967296) (K : ByteArray → Res) : laws_markText k K = K (mT k) := by
  unfold laws_markText laws_markText_l0
  have h0 : decide (k ≤ 0) = false := decide_eq_false (by omega)
  have := markText_loop (fun (out : ByteArray) => bif lim (1 + (ByteArray.size out)) then K (z_m ++ out) else none) FUEL k.toNat 12 eS (FUEL_lt (by omega)) (by omega) (by omega) (by omega) (by show 0 + 12 ≤ 1000; omega)
  rw [show ((k.toNat : Nat) : Int) = k by omega, eS_app] at this
  rw [h0, cond_false]
  refine this.trans ?_
  have hs := digt_size 12 k.toNat (by omega)
  rw [lim_of (by unfold LIM; omega), cond_true]
  rfl
end Go.PI.G
