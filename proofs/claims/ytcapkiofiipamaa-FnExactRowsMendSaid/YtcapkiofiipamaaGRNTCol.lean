/-
  What the exact laws do with a kind of argument. Lemmas; no conditions.
-/
import Derived.Test.YtcapkiofiipamaaGRNText
import Derived.Test.YtcapkiofiipamaaGRTCol
import Derived.Test.YtcapkiofiipamaaGRNTVal
set_option linter.unusedVariables false
set_option linter.unusedSimpArgs false
set_option maxRecDepth 10000
namespace Go.PI.G
open Go Go.PI Go.Proofs

theorem toCol_eq (a : ByteArray × Int × Bool × Bool × Int × Int × ByteArray) (h : msr (.pair .str (.pair (.int .i64) (.pair .bool (.pair .bool (.pair (.int .i64) (.pair (.int .i64) .str)))))) a ≤ 1048576) (k : (ByteArray × Int × Bool × Bool × Int × Int × ByteArray) → Res) : laws_toCol a k = k a := by
  have h4 : msr (.pair (.int .i64) (.pair (.int .i64) .str)) a.2.2.2.2 ≤ 1048576 := by
    have : msr (.pair (.int .i64) (.pair (.int .i64) .str)) a.2.2.2.2 ≤ msr (.pair .str (.pair (.int .i64) (.pair .bool (.pair .bool (.pair (.int .i64) (.pair (.int .i64) .str)))))) a := by first | exact Nat.le_refl _ | (simp only [msr]; omega)
    omega
  unfold laws_toCol
  simp only [toVal_eq _ h4]

theorem szCol_eq (a : ByteArray × Int × Bool × Bool × Int × Int × ByteArray) (left : Int) (h0 : 0 ≤ left) (h1 : left ≤ 1048576) (hw : Wf (.pair .str (.pair (.int .i64) (.pair .bool (.pair .bool (.pair (.int .i64) (.pair (.int .i64) .str)))))) a) (k : Int → Res) : laws_szCol a left k = k (szR left (msr (.pair .str (.pair (.int .i64) (.pair .bool (.pair .bool (.pair (.int .i64) (.pair (.int .i64) .str)))))) a)) := by
  have hm : msr (.pair .str (.pair (.int .i64) (.pair .bool (.pair .bool (.pair (.int .i64) (.pair (.int .i64) .str)))))) a = ByteArray.size a.1 + (msr (.pair (.int .i64) (.pair (.int .i64) .str)) a.2.2.2.2 + 0) := by simp only [msr]; omega
  rw [hm]
  unfold laws_szCol
  have hx0 : ByteArray.size a.1 ≤ maxLen := hw.1
  unfold maxLen at hx0
  rw [wi64_in (by unfold nI; omega)]
  by_cases hb0 : ((ByteArray.size a.1 : Nat) : Int) ≤ left
  rotate_left
  · rw [szR_stop hb0, dec_lt_t (by unfold nI; omega), cond_true]
  rw [dec_lt_f (by unfold nI; omega), cond_false, szR_step hb0, show left - nI (ByteArray.size a.1) = left - ((ByteArray.size a.1 : Nat) : Int) from rfl]
  rw [szVal_eq _ _ (by omega) (by omega) hw.2.2.2.2]
  by_cases hb1 : ((msr (.pair (.int .i64) (.pair (.int .i64) .str)) a.2.2.2.2 : Nat) : Int) ≤ left - (ByteArray.size a.1 : Nat)
  rotate_left
  · rw [szR_neg hb1, szR_stop hb1, dec_lt_t (by omega), cond_true]
  rw [szR_pos hb1, szR_step hb1, dec_lt_f (by omega), cond_false]
  exact sz_end (by omega)

theorem eqCol_eq (a : ByteArray × Int × Bool × Bool × Int × Int × ByteArray) (h : msr (.pair .str (.pair (.int .i64) (.pair .bool (.pair .bool (.pair (.int .i64) (.pair (.int .i64) .str)))))) a ≤ 1048576) (k : Bool → Res) : laws_eqCol a a k = k true := by
  have h4 : msr (.pair (.int .i64) (.pair (.int .i64) .str)) a.2.2.2.2 ≤ 1048576 := by
    have : msr (.pair (.int .i64) (.pair (.int .i64) .str)) a.2.2.2.2 ≤ msr (.pair .str (.pair (.int .i64) (.pair .bool (.pair .bool (.pair (.int .i64) (.pair (.int .i64) .str)))))) a := by first | exact Nat.le_refl _ | (simp only [msr]; omega)
    omega
  unfold laws_eqCol
  simp only [bne_f, sNe_self, beq_self_eq_true, cond_false, Bool.not_true, eqVal_eq _ h4]
end Go.PI.G
