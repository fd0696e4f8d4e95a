/-
  What the exact laws do with a kind of argument. Lemmas; no conditions.
-/
import Derived.Test.YtcapkiofiipamaaGRNText
import Derived.Test.YtcapkiofiipamaaGRTVal
set_option linter.unusedVariables false
set_option linter.unusedSimpArgs false
set_option maxRecDepth 10000
namespace Go.PI.G
open Go Go.PI Go.Proofs

theorem toVal_eq (a : Int × Int × ByteArray) (h : msr (.pair (.int .i64) (.pair (.int .i64) .str)) a ≤ 1048576) (k : (Int × Int × ByteArray) → Res) : laws_toVal a k = k a := by
  unfold laws_toVal
  rfl

theorem szVal_eq (a : Int × Int × ByteArray) (left : Int) (h0 : 0 ≤ left) (h1 : left ≤ 1048576) (hw : Wf (.pair (.int .i64) (.pair (.int .i64) .str)) a) (k : Int → Res) : laws_szVal a left k = k (szR left (msr (.pair (.int .i64) (.pair (.int .i64) .str)) a)) := by
  have hm : msr (.pair (.int .i64) (.pair (.int .i64) .str)) a = ByteArray.size a.2.2 + 0 := by simp only [msr]; omega
  rw [hm]
  unfold laws_szVal
  have hx0 : ByteArray.size a.2.2 ≤ maxLen := hw.2.2
  unfold maxLen at hx0
  rw [wi64_in (by unfold nI; omega)]
  by_cases hb0 : ((ByteArray.size a.2.2 : Nat) : Int) ≤ left
  rotate_left
  · rw [szR_stop hb0, dec_lt_t (by unfold nI; omega), cond_true]
  rw [dec_lt_f (by unfold nI; omega), cond_false, szR_step hb0, show left - nI (ByteArray.size a.2.2) = left - ((ByteArray.size a.2.2 : Nat) : Int) from rfl]
  exact sz_end (by omega)

theorem eqVal_eq (a : Int × Int × ByteArray) (h : msr (.pair (.int .i64) (.pair (.int .i64) .str)) a ≤ 1048576) (k : Bool → Res) : laws_eqVal a a k = k true := by
  unfold laws_eqVal
  simp only [bne_f, sNe_self, beq_self_eq_true, cond_false, Bool.not_true]
end Go.PI.G
