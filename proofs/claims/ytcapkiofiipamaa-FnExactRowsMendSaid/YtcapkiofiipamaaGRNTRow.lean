/-
  What the exact laws do with a kind of argument. Lemmas; no conditions.
-/
import Derived.Test.YtcapkiofiipamaaGRNText
import Derived.Test.YtcapkiofiipamaaGRTRow
import Derived.Test.YtcapkiofiipamaaGRNTValS
set_option linter.unusedVariables false
set_option linter.unusedSimpArgs false
set_option maxRecDepth 10000
namespace Go.PI.G
open Go Go.PI Go.Proofs

theorem toRow_eq (a : List (Int × Int × ByteArray)) (h : msr (.slice (.pair (.int .i64) (.pair (.int .i64) .str))) a ≤ 1048576) (k : (List (Int × Int × ByteArray)) → Res) : laws_toRow a k = k a := by
  have h0 : msr (.slice (.pair (.int .i64) (.pair (.int .i64) .str))) a ≤ 1048576 := h
  unfold laws_toRow
  simp only [toValS_eq _ h0]

theorem szRow_eq (a : List (Int × Int × ByteArray)) (left : Int) (h0 : 0 ≤ left) (h1 : left ≤ 1048576) (hw : Wf (.slice (.pair (.int .i64) (.pair (.int .i64) .str))) a) (k : Int → Res) : laws_szRow a left k = k (szR left (msr (.slice (.pair (.int .i64) (.pair (.int .i64) .str))) a)) := by
  have hm : msr (.slice (.pair (.int .i64) (.pair (.int .i64) .str))) a = msr (.slice (.pair (.int .i64) (.pair (.int .i64) .str))) a + 0 := rfl
  rw [hm]
  unfold laws_szRow
  rw [szValS_eq _ _ (by omega) (by omega) hw]
  by_cases hb0 : ((msr (.slice (.pair (.int .i64) (.pair (.int .i64) .str))) a : Nat) : Int) ≤ left
  rotate_left
  · rw [szR_neg hb0, szR_stop hb0, dec_lt_t (by omega), cond_true]
  rw [szR_pos hb0, szR_step hb0, dec_lt_f (by omega), cond_false]
  exact sz_end (by omega)

theorem eqRow_eq (a : List (Int × Int × ByteArray)) (h : msr (.slice (.pair (.int .i64) (.pair (.int .i64) .str))) a ≤ 1048576) (k : Bool → Res) : laws_eqRow a a k = k true := by
  have h0 : msr (.slice (.pair (.int .i64) (.pair (.int .i64) .str))) a ≤ 1048576 := h
  unfold laws_eqRow
  simp only [bne_f, sNe_self, beq_self_eq_true, cond_false, Bool.not_true, eqValS_eq _ h0]
end Go.PI.G
