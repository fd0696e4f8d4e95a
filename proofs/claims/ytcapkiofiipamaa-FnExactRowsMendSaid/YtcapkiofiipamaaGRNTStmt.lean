/-
  What the exact laws do with a kind of argument. Lemmas; no conditions.
-/
import Derived.Test.YtcapkiofiipamaaGRNText
import Derived.Test.YtcapkiofiipamaaGRTStmt
import Derived.Test.YtcapkiofiipamaaGRNTDdl
import Derived.Test.YtcapkiofiipamaaGRNTRow
import Derived.Test.YtcapkiofiipamaaGRNTValS
set_option linter.unusedVariables false
set_option linter.unusedSimpArgs false
set_option maxRecDepth 10000
namespace Go.PI.G
open Go Go.PI Go.Proofs

theorem eqStmt_eq (a : Int × ByteArray × (List (Int × Int × ByteArray)) × (List (Int × Int × ByteArray)) × Int × ByteArray × (List (ByteArray × Int × Bool × Bool × Int × Int × ByteArray)) × List ByteArray × ByteArray × ByteArray) (h : msr (.pair (.int .i64) (.pair .str (.pair (.slice (.pair (.int .i64) (.pair (.int .i64) .str))) (.pair (.slice (.pair (.int .i64) (.pair (.int .i64) .str))) (.pair (.int .i64) (.pair .str (.pair (.slice (.pair .str (.pair (.int .i64) (.pair .bool (.pair .bool (.pair (.int .i64) (.pair (.int .i64) .str))))))) (.pair (.slice .str) (.pair .str .str))))))))) a ≤ 1048576) (k : Bool → Res) : laws_eqStmt a a k = k true := by
  have h2 : msr (.slice (.pair (.int .i64) (.pair (.int .i64) .str))) a.2.2.1 ≤ 1048576 := by
    have : msr (.slice (.pair (.int .i64) (.pair (.int .i64) .str))) a.2.2.1 ≤ msr (.pair (.int .i64) (.pair .str (.pair (.slice (.pair (.int .i64) (.pair (.int .i64) .str))) (.pair (.slice (.pair (.int .i64) (.pair (.int .i64) .str))) (.pair (.int .i64) (.pair .str (.pair (.slice (.pair .str (.pair (.int .i64) (.pair .bool (.pair .bool (.pair (.int .i64) (.pair (.int .i64) .str))))))) (.pair (.slice .str) (.pair .str .str))))))))) a := by first | exact Nat.le_refl _ | (simp only [msr]; omega)
    omega
  have h3 : msr (.slice (.pair (.int .i64) (.pair (.int .i64) .str))) a.2.2.2.1 ≤ 1048576 := by
    have : msr (.slice (.pair (.int .i64) (.pair (.int .i64) .str))) a.2.2.2.1 ≤ msr (.pair (.int .i64) (.pair .str (.pair (.slice (.pair (.int .i64) (.pair (.int .i64) .str))) (.pair (.slice (.pair (.int .i64) (.pair (.int .i64) .str))) (.pair (.int .i64) (.pair .str (.pair (.slice (.pair .str (.pair (.int .i64) (.pair .bool (.pair .bool (.pair (.int .i64) (.pair (.int .i64) .str))))))) (.pair (.slice .str) (.pair .str .str))))))))) a := by first | exact Nat.le_refl _ | (simp only [msr]; omega)
    omega
  have h4 : msr (.pair (.int .i64) (.pair .str (.pair (.slice (.pair .str (.pair (.int .i64) (.pair .bool (.pair .bool (.pair (.int .i64) (.pair (.int .i64) .str))))))) (.pair (.slice .str) (.pair .str .str))))) a.2.2.2.2 ≤ 1048576 := by
    have : msr (.pair (.int .i64) (.pair .str (.pair (.slice (.pair .str (.pair (.int .i64) (.pair .bool (.pair .bool (.pair (.int .i64) (.pair (.int .i64) .str))))))) (.pair (.slice .str) (.pair .str .str))))) a.2.2.2.2 ≤ msr (.pair (.int .i64) (.pair .str (.pair (.slice (.pair (.int .i64) (.pair (.int .i64) .str))) (.pair (.slice (.pair (.int .i64) (.pair (.int .i64) .str))) (.pair (.int .i64) (.pair .str (.pair (.slice (.pair .str (.pair (.int .i64) (.pair .bool (.pair .bool (.pair (.int .i64) (.pair (.int .i64) .str))))))) (.pair (.slice .str) (.pair .str .str))))))))) a := by first | exact Nat.le_refl _ | (simp only [msr]; omega)
    omega
  unfold laws_eqStmt
  simp only [bne_f, sNe_self, beq_self_eq_true, cond_false, Bool.not_true, eqValS_eq _ h2, eqRow_eq _ h3, eqDdl_eq _ h4]
end Go.PI.G
