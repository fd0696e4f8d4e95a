/-
  What the exact laws do with a kind of argument. Lemmas; no conditions.
-/
import Derived.Test.YtcapkiofiipamaaGRNText
import Derived.Test.YtcapkiofiipamaaGRTTable
import Derived.Test.YtcapkiofiipamaaGRNTColS
import Derived.Test.YtcapkiofiipamaaGRNTStringS
set_option linter.unusedVariables false
set_option linter.unusedSimpArgs false
set_option maxRecDepth 10000
namespace Go.PI.G
open Go Go.PI Go.Proofs

theorem toTable_eq (a : ByteArray × (List (ByteArray × Int × Bool × Bool × Int × Int × ByteArray)) × List ByteArray) (h : msr (.pair .str (.pair (.slice (.pair .str (.pair (.int .i64) (.pair .bool (.pair .bool (.pair (.int .i64) (.pair (.int .i64) .str))))))) (.slice .str))) a ≤ 1048576) (k : (ByteArray × (List (ByteArray × Int × Bool × Bool × Int × Int × ByteArray)) × List ByteArray) → Res) : laws_toTable a k = k a := by
  have h1 : msr (.slice (.pair .str (.pair (.int .i64) (.pair .bool (.pair .bool (.pair (.int .i64) (.pair (.int .i64) .str))))))) a.2.1 ≤ 1048576 := by
    have : msr (.slice (.pair .str (.pair (.int .i64) (.pair .bool (.pair .bool (.pair (.int .i64) (.pair (.int .i64) .str))))))) a.2.1 ≤ msr (.pair .str (.pair (.slice (.pair .str (.pair (.int .i64) (.pair .bool (.pair .bool (.pair (.int .i64) (.pair (.int .i64) .str))))))) (.slice .str))) a := by first | exact Nat.le_refl _ | (simp only [msr]; omega)
    omega
  have h2 : msr (.slice .str) a.2.2 ≤ 1048576 := by
    have : msr (.slice .str) a.2.2 ≤ msr (.pair .str (.pair (.slice (.pair .str (.pair (.int .i64) (.pair .bool (.pair .bool (.pair (.int .i64) (.pair (.int .i64) .str))))))) (.slice .str))) a := by first | exact Nat.le_refl _ | (simp only [msr]; omega)
    omega
  unfold laws_toTable
  simp only [toColS_eq _ h1, toStringS_eq _ h2]

theorem szTable_eq (a : ByteArray × (List (ByteArray × Int × Bool × Bool × Int × Int × ByteArray)) × List ByteArray) (left : Int) (h0 : 0 ≤ left) (h1 : left ≤ 1048576) (hw : Wf (.pair .str (.pair (.slice (.pair .str (.pair (.int .i64) (.pair .bool (.pair .bool (.pair (.int .i64) (.pair (.int .i64) .str))))))) (.slice .str))) a) (k : Int → Res) : laws_szTable a left k = k (szR left (msr (.pair .str (.pair (.slice (.pair .str (.pair (.int .i64) (.pair .bool (.pair .bool (.pair (.int .i64) (.pair (.int .i64) .str))))))) (.slice .str))) a)) := by
  have hm : msr (.pair .str (.pair (.slice (.pair .str (.pair (.int .i64) (.pair .bool (.pair .bool (.pair (.int .i64) (.pair (.int .i64) .str))))))) (.slice .str))) a = ByteArray.size a.1 + (msr (.slice (.pair .str (.pair (.int .i64) (.pair .bool (.pair .bool (.pair (.int .i64) (.pair (.int .i64) .str))))))) a.2.1 + (msr (.slice .str) a.2.2 + 0)) := by simp only [msr]; omega
  rw [hm]
  unfold laws_szTable
  have hx0 : ByteArray.size a.1 ≤ maxLen := hw.1
  unfold maxLen at hx0
  rw [wi64_in (by unfold nI; omega)]
  by_cases hb0 : ((ByteArray.size a.1 : Nat) : Int) ≤ left
  rotate_left
  · rw [szR_stop hb0, dec_lt_t (by unfold nI; omega), cond_true]
  rw [dec_lt_f (by unfold nI; omega), cond_false, szR_step hb0, show left - nI (ByteArray.size a.1) = left - ((ByteArray.size a.1 : Nat) : Int) from rfl]
  rw [szColS_eq _ _ (by omega) (by omega) hw.2.1]
  by_cases hb1 : ((msr (.slice (.pair .str (.pair (.int .i64) (.pair .bool (.pair .bool (.pair (.int .i64) (.pair (.int .i64) .str))))))) a.2.1 : Nat) : Int) ≤ left - (ByteArray.size a.1 : Nat)
  rotate_left
  · rw [szR_neg hb1, szR_stop hb1, dec_lt_t (by omega), cond_true]
  rw [szR_pos hb1, szR_step hb1, dec_lt_f (by omega), cond_false]
  rw [szStringS_eq _ _ (by omega) (by omega) hw.2.2]
  by_cases hb2 : ((msr (.slice .str) a.2.2 : Nat) : Int) ≤ left - (ByteArray.size a.1 : Nat) - (msr (.slice (.pair .str (.pair (.int .i64) (.pair .bool (.pair .bool (.pair (.int .i64) (.pair (.int .i64) .str))))))) a.2.1 : Nat)
  rotate_left
  · rw [szR_neg hb2, szR_stop hb2, dec_lt_t (by omega), cond_true]
  rw [szR_pos hb2, szR_step hb2, dec_lt_f (by omega), cond_false]
  exact sz_end (by omega)

theorem eqTable_eq (a : ByteArray × (List (ByteArray × Int × Bool × Bool × Int × Int × ByteArray)) × List ByteArray) (h : msr (.pair .str (.pair (.slice (.pair .str (.pair (.int .i64) (.pair .bool (.pair .bool (.pair (.int .i64) (.pair (.int .i64) .str))))))) (.slice .str))) a ≤ 1048576) (k : Bool → Res) : laws_eqTable a a k = k true := by
  have h1 : msr (.slice (.pair .str (.pair (.int .i64) (.pair .bool (.pair .bool (.pair (.int .i64) (.pair (.int .i64) .str))))))) a.2.1 ≤ 1048576 := by
    have : msr (.slice (.pair .str (.pair (.int .i64) (.pair .bool (.pair .bool (.pair (.int .i64) (.pair (.int .i64) .str))))))) a.2.1 ≤ msr (.pair .str (.pair (.slice (.pair .str (.pair (.int .i64) (.pair .bool (.pair .bool (.pair (.int .i64) (.pair (.int .i64) .str))))))) (.slice .str))) a := by first | exact Nat.le_refl _ | (simp only [msr]; omega)
    omega
  have h2 : msr (.slice .str) a.2.2 ≤ 1048576 := by
    have : msr (.slice .str) a.2.2 ≤ msr (.pair .str (.pair (.slice (.pair .str (.pair (.int .i64) (.pair .bool (.pair .bool (.pair (.int .i64) (.pair (.int .i64) .str))))))) (.slice .str))) a := by first | exact Nat.le_refl _ | (simp only [msr]; omega)
    omega
  unfold laws_eqTable
  simp only [bne_f, sNe_self, beq_self_eq_true, cond_false, Bool.not_true, eqColS_eq _ h1, eqStringS_eq _ h2]

theorem markTable_eq (a : ByteArray × (List (ByteArray × Int × Bool × Bool × Int × Int × ByteArray)) × List ByteArray) (k : Int) (h : msr (.pair .str (.pair (.slice (.pair .str (.pair (.int .i64) (.pair .bool (.pair .bool (.pair (.int .i64) (.pair (.int .i64) .str))))))) (.slice .str))) a ≤ 1048576) (h0 : 1 ≤ k) (hk : k + (wgtT (.pair .str (.pair (.slice (.pair .str (.pair (.int .i64) (.pair .bool (.pair .bool (.pair (.int .i64) (.pair (.int .i64) .str))))))) (.slice .str))) a : Int) ≤ 4294967296) (K : Int → (ByteArray × (List (ByteArray × Int × Bool × Bool × Int × Int × ByteArray)) × List ByteArray) → Res) : laws_markTable a k K = K (k + (wgtT (.pair .str (.pair (.slice (.pair .str (.pair (.int .i64) (.pair .bool (.pair .bool (.pair (.int .i64) (.pair (.int .i64) .str))))))) (.slice .str))) a : Int)) (mkT (.pair .str (.pair (.slice (.pair .str (.pair (.int .i64) (.pair .bool (.pair .bool (.pair (.int .i64) (.pair (.int .i64) .str))))))) (.slice .str))) a k) := by
  have h1 : msr (.slice (.pair .str (.pair (.int .i64) (.pair .bool (.pair .bool (.pair (.int .i64) (.pair (.int .i64) .str))))))) a.2.1 ≤ 1048576 := by
    have : msr (.slice (.pair .str (.pair (.int .i64) (.pair .bool (.pair .bool (.pair (.int .i64) (.pair (.int .i64) .str))))))) a.2.1 ≤ msr (.pair .str (.pair (.slice (.pair .str (.pair (.int .i64) (.pair .bool (.pair .bool (.pair (.int .i64) (.pair (.int .i64) .str))))))) (.slice .str))) a := by first | exact Nat.le_refl _ | (simp only [msr]; omega)
    omega
  have h2 : msr (.slice .str) a.2.2 ≤ 1048576 := by
    have : msr (.slice .str) a.2.2 ≤ msr (.pair .str (.pair (.slice (.pair .str (.pair (.int .i64) (.pair .bool (.pair .bool (.pair (.int .i64) (.pair (.int .i64) .str))))))) (.slice .str))) a := by first | exact Nat.le_refl _ | (simp only [msr]; omega)
    omega
  have g0 : msr (.slice (.pair .str (.pair (.int .i64) (.pair .bool (.pair .bool (.pair (.int .i64) (.pair (.int .i64) .str))))))) a.2.1 ≤ 1048576 := by
    have : msr (.slice (.pair .str (.pair (.int .i64) (.pair .bool (.pair .bool (.pair (.int .i64) (.pair (.int .i64) .str))))))) a.2.1 ≤ msr (.pair .str (.pair (.slice (.pair .str (.pair (.int .i64) (.pair .bool (.pair .bool (.pair (.int .i64) (.pair (.int .i64) .str))))))) (.slice .str))) a := by first | exact Nat.le_refl _ | (simp only [msr]; omega)
    omega
  have g1 : msr (.slice .str) a.2.2 ≤ 1048576 := by
    have : msr (.slice .str) a.2.2 ≤ msr (.pair .str (.pair (.slice (.pair .str (.pair (.int .i64) (.pair .bool (.pair .bool (.pair (.int .i64) (.pair (.int .i64) .str))))))) (.slice .str))) a := by first | exact Nat.le_refl _ | (simp only [msr]; omega)
    omega
  have hw : wgtT (.pair .str (.pair (.slice (.pair .str (.pair (.int .i64) (.pair .bool (.pair .bool (.pair (.int .i64) (.pair (.int .i64) .str))))))) (.slice .str))) a = wgt (.slice (.pair .str (.pair (.int .i64) (.pair .bool (.pair .bool (.pair (.int .i64) (.pair (.int .i64) .str))))))) a.2.1 + wgt (.slice .str) a.2.2 := by first | rfl | (simp only [wgtT_pair, wgtT_slice, wgtT_int, wgtT_bool, wgtT_str, Nat.zero_add, Nat.add_zero]; done) | (simp only [wgtT_pair, wgtT_slice, wgtT_int, wgtT_bool, wgtT_str, Nat.zero_add, Nat.add_zero]; omega)
  have w1 : wgtT (.slice (.pair .str (.pair (.int .i64) (.pair .bool (.pair .bool (.pair (.int .i64) (.pair (.int .i64) .str))))))) a.2.1 = wgt (.slice (.pair .str (.pair (.int .i64) (.pair .bool (.pair .bool (.pair (.int .i64) (.pair (.int .i64) .str))))))) a.2.1 := by first | rfl | (simp only [wgtT, wgt]; omega)
  have w2 : wgtT (.slice .str) a.2.2 = wgt (.slice .str) a.2.2 := by first | rfl | (simp only [wgtT, wgt]; omega)
  unfold laws_markTable
  simp (disch := first | assumption | omega) only [markColS_eq, markStringS_eq]
  first | rfl | (simp only [mkT_pair .str (.pair (.slice (.pair .str (.pair (.int .i64) (.pair .bool (.pair .bool (.pair (.int .i64) (.pair (.int .i64) .str))))))) (.slice .str)), wgtT_pair .str (.pair (.slice (.pair .str (.pair (.int .i64) (.pair .bool (.pair .bool (.pair (.int .i64) (.pair (.int .i64) .str))))))) (.slice .str)), mkT_pair (.slice (.pair .str (.pair (.int .i64) (.pair .bool (.pair .bool (.pair (.int .i64) (.pair (.int .i64) .str))))))) (.slice .str), wgtT_pair (.slice (.pair .str (.pair (.int .i64) (.pair .bool (.pair .bool (.pair (.int .i64) (.pair (.int .i64) .str))))))) (.slice .str), mkT_slice, mkT_int, mkT_bool, mkT_str, wgtT_slice, wgtT_int, wgtT_bool, wgtT_str, Int.natCast_add, Int.natCast_zero, Int.cast_ofNat_Int, Nat.zero_add, Nat.add_zero, Int.add_zero, ← Int.add_assoc]; done) | (simp only [mkT_pair .str (.pair (.slice (.pair .str (.pair (.int .i64) (.pair .bool (.pair .bool (.pair (.int .i64) (.pair (.int .i64) .str))))))) (.slice .str)), wgtT_pair .str (.pair (.slice (.pair .str (.pair (.int .i64) (.pair .bool (.pair .bool (.pair (.int .i64) (.pair (.int .i64) .str))))))) (.slice .str)), mkT_pair (.slice (.pair .str (.pair (.int .i64) (.pair .bool (.pair .bool (.pair (.int .i64) (.pair (.int .i64) .str))))))) (.slice .str), wgtT_pair (.slice (.pair .str (.pair (.int .i64) (.pair .bool (.pair .bool (.pair (.int .i64) (.pair (.int .i64) .str))))))) (.slice .str), mkT_slice, mkT_int, mkT_bool, mkT_str, wgtT_slice, wgtT_int, wgtT_bool, wgtT_str, Int.natCast_add, Int.natCast_zero, Int.cast_ofNat_Int, Nat.zero_add, Nat.add_zero, Int.add_zero, ← Int.add_assoc]; rfl)
end Go.PI.G
