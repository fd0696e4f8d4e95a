/-
  What the exact laws do with a kind of argument. Lemmas; no conditions.
-/
import Derived.Test.YtcapkiofiipamaaK3
import Derived.Test.YtcapkiofiipamaaGFTDb
import Derived.Test.YtcapkiofiipamaaGFNTCat
import Derived.Test.YtcapkiofiipamaaGFNTRowsS
set_option linter.unusedVariables false
set_option linter.unusedSimpArgs false
set_option maxRecDepth 10000
namespace Go.PI.G
open Go Go.PI Go.Proofs

theorem toDb_eq (a : (List (ByteArray × (List (ByteArray × Int × Bool × Bool × Int × Int × ByteArray)) × List ByteArray)) × List (List (List (Int × Int × ByteArray)))) (h : msr (.pair (.slice (.pair .str (.pair (.slice (.pair .str (.pair (.int .i64) (.pair .bool (.pair .bool (.pair (.int .i64) (.pair (.int .i64) .str))))))) (.slice .str)))) (.slice (.slice (.slice (.pair (.int .i64) (.pair (.int .i64) .str)))))) a ≤ 1048576) (k : ((List (ByteArray × (List (ByteArray × Int × Bool × Bool × Int × Int × ByteArray)) × List ByteArray)) × List (List (List (Int × Int × ByteArray)))) → Res) : laws_toDb a k = k a := by
  have h0 : msr (.slice (.pair .str (.pair (.slice (.pair .str (.pair (.int .i64) (.pair .bool (.pair .bool (.pair (.int .i64) (.pair (.int .i64) .str))))))) (.slice .str)))) a.1 ≤ 1048576 := by
    have : msr (.slice (.pair .str (.pair (.slice (.pair .str (.pair (.int .i64) (.pair .bool (.pair .bool (.pair (.int .i64) (.pair (.int .i64) .str))))))) (.slice .str)))) a.1 ≤ msr (.pair (.slice (.pair .str (.pair (.slice (.pair .str (.pair (.int .i64) (.pair .bool (.pair .bool (.pair (.int .i64) (.pair (.int .i64) .str))))))) (.slice .str)))) (.slice (.slice (.slice (.pair (.int .i64) (.pair (.int .i64) .str)))))) a := by first | exact Nat.le_refl _ | (simp only [msr]; omega)
    omega
  have h1 : msr (.slice (.slice (.slice (.pair (.int .i64) (.pair (.int .i64) .str))))) a.2 ≤ 1048576 := by
    have : msr (.slice (.slice (.slice (.pair (.int .i64) (.pair (.int .i64) .str))))) a.2 ≤ msr (.pair (.slice (.pair .str (.pair (.slice (.pair .str (.pair (.int .i64) (.pair .bool (.pair .bool (.pair (.int .i64) (.pair (.int .i64) .str))))))) (.slice .str)))) (.slice (.slice (.slice (.pair (.int .i64) (.pair (.int .i64) .str)))))) a := by first | exact Nat.le_refl _ | (simp only [msr]; omega)
    omega
  unfold laws_toDb
  simp only [toCat_eq _ h0, toRowsS_eq _ h1]

theorem szDb_eq (a : (List (ByteArray × (List (ByteArray × Int × Bool × Bool × Int × Int × ByteArray)) × List ByteArray)) × List (List (List (Int × Int × ByteArray)))) (left : Int) (h0 : 0 ≤ left) (h1 : left ≤ 1048576) (hw : Wf (.pair (.slice (.pair .str (.pair (.slice (.pair .str (.pair (.int .i64) (.pair .bool (.pair .bool (.pair (.int .i64) (.pair (.int .i64) .str))))))) (.slice .str)))) (.slice (.slice (.slice (.pair (.int .i64) (.pair (.int .i64) .str)))))) a) (k : Int → Res) : laws_szDb a left k = k (szR left (msr (.pair (.slice (.pair .str (.pair (.slice (.pair .str (.pair (.int .i64) (.pair .bool (.pair .bool (.pair (.int .i64) (.pair (.int .i64) .str))))))) (.slice .str)))) (.slice (.slice (.slice (.pair (.int .i64) (.pair (.int .i64) .str)))))) a)) := by
  have hm : msr (.pair (.slice (.pair .str (.pair (.slice (.pair .str (.pair (.int .i64) (.pair .bool (.pair .bool (.pair (.int .i64) (.pair (.int .i64) .str))))))) (.slice .str)))) (.slice (.slice (.slice (.pair (.int .i64) (.pair (.int .i64) .str)))))) a = msr (.slice (.pair .str (.pair (.slice (.pair .str (.pair (.int .i64) (.pair .bool (.pair .bool (.pair (.int .i64) (.pair (.int .i64) .str))))))) (.slice .str)))) a.1 + (msr (.slice (.slice (.slice (.pair (.int .i64) (.pair (.int .i64) .str))))) a.2 + 0) := by simp only [msr]; omega
  rw [hm]
  unfold laws_szDb
  rw [szCat_eq _ _ (by omega) (by omega) hw.1]
  by_cases hb0 : ((msr (.slice (.pair .str (.pair (.slice (.pair .str (.pair (.int .i64) (.pair .bool (.pair .bool (.pair (.int .i64) (.pair (.int .i64) .str))))))) (.slice .str)))) a.1 : Nat) : Int) ≤ left
  rotate_left
  · rw [szR_neg hb0, szR_stop hb0, dec_lt_t (by omega), cond_true]
  rw [szR_pos hb0, szR_step hb0, dec_lt_f (by omega), cond_false]
  rw [szRowsS_eq _ _ (by omega) (by omega) hw.2]
  by_cases hb1 : ((msr (.slice (.slice (.slice (.pair (.int .i64) (.pair (.int .i64) .str))))) a.2 : Nat) : Int) ≤ left - (msr (.slice (.pair .str (.pair (.slice (.pair .str (.pair (.int .i64) (.pair .bool (.pair .bool (.pair (.int .i64) (.pair (.int .i64) .str))))))) (.slice .str)))) a.1 : Nat)
  rotate_left
  · rw [szR_neg hb1, szR_stop hb1, dec_lt_t (by omega), cond_true]
  rw [szR_pos hb1, szR_step hb1, dec_lt_f (by omega), cond_false]
  exact sz_end (by omega)

theorem eqDb_eq (a : (List (ByteArray × (List (ByteArray × Int × Bool × Bool × Int × Int × ByteArray)) × List ByteArray)) × List (List (List (Int × Int × ByteArray)))) (h : msr (.pair (.slice (.pair .str (.pair (.slice (.pair .str (.pair (.int .i64) (.pair .bool (.pair .bool (.pair (.int .i64) (.pair (.int .i64) .str))))))) (.slice .str)))) (.slice (.slice (.slice (.pair (.int .i64) (.pair (.int .i64) .str)))))) a ≤ 1048576) (k : Bool → Res) : laws_eqDb a a k = k true := by
  have h0 : msr (.slice (.pair .str (.pair (.slice (.pair .str (.pair (.int .i64) (.pair .bool (.pair .bool (.pair (.int .i64) (.pair (.int .i64) .str))))))) (.slice .str)))) a.1 ≤ 1048576 := by
    have : msr (.slice (.pair .str (.pair (.slice (.pair .str (.pair (.int .i64) (.pair .bool (.pair .bool (.pair (.int .i64) (.pair (.int .i64) .str))))))) (.slice .str)))) a.1 ≤ msr (.pair (.slice (.pair .str (.pair (.slice (.pair .str (.pair (.int .i64) (.pair .bool (.pair .bool (.pair (.int .i64) (.pair (.int .i64) .str))))))) (.slice .str)))) (.slice (.slice (.slice (.pair (.int .i64) (.pair (.int .i64) .str)))))) a := by first | exact Nat.le_refl _ | (simp only [msr]; omega)
    omega
  have h1 : msr (.slice (.slice (.slice (.pair (.int .i64) (.pair (.int .i64) .str))))) a.2 ≤ 1048576 := by
    have : msr (.slice (.slice (.slice (.pair (.int .i64) (.pair (.int .i64) .str))))) a.2 ≤ msr (.pair (.slice (.pair .str (.pair (.slice (.pair .str (.pair (.int .i64) (.pair .bool (.pair .bool (.pair (.int .i64) (.pair (.int .i64) .str))))))) (.slice .str)))) (.slice (.slice (.slice (.pair (.int .i64) (.pair (.int .i64) .str)))))) a := by first | exact Nat.le_refl _ | (simp only [msr]; omega)
    omega
  unfold laws_eqDb
  simp only [bne_f, sNe_self, beq_self_eq_true, cond_false, Bool.not_true, eqCat_eq _ h0, eqRowsS_eq _ h1]
end Go.PI.G
