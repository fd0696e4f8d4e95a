/-
  What the exact laws do with a kind of argument. Lemmas; no conditions.
-/
import Derived.Test.YtcapkiofiipamaaK3
import Derived.Test.YtcapkiofiipamaaGFTCat
import Derived.Test.YtcapkiofiipamaaGFNTTableS
set_option linter.unusedVariables false
set_option linter.unusedSimpArgs false
set_option maxRecDepth 10000
namespace Go.PI.G
open Go Go.PI Go.Proofs

theorem toCat_eq (a : List (ByteArray × (List (ByteArray × Int × Bool × Bool × Int × Int × ByteArray)) × List ByteArray)) (h : msr (.slice (.pair .str (.pair (.slice (.pair .str (.pair (.int .i64) (.pair .bool (.pair .bool (.pair (.int .i64) (.pair (.int .i64) .str))))))) (.slice .str)))) a ≤ 1048576) (k : (List (ByteArray × (List (ByteArray × Int × Bool × Bool × Int × Int × ByteArray)) × List ByteArray)) → Res) : laws_toCat a k = k a := by
  have h0 : msr (.slice (.pair .str (.pair (.slice (.pair .str (.pair (.int .i64) (.pair .bool (.pair .bool (.pair (.int .i64) (.pair (.int .i64) .str))))))) (.slice .str)))) a ≤ 1048576 := h
  unfold laws_toCat
  simp only [toTableS_eq _ h0]

theorem szCat_eq (a : List (ByteArray × (List (ByteArray × Int × Bool × Bool × Int × Int × ByteArray)) × List ByteArray)) (left : Int) (h0 : 0 ≤ left) (h1 : left ≤ 1048576) (hw : Wf (.slice (.pair .str (.pair (.slice (.pair .str (.pair (.int .i64) (.pair .bool (.pair .bool (.pair (.int .i64) (.pair (.int .i64) .str))))))) (.slice .str)))) a) (k : Int → Res) : laws_szCat a left k = k (szR left (msr (.slice (.pair .str (.pair (.slice (.pair .str (.pair (.int .i64) (.pair .bool (.pair .bool (.pair (.int .i64) (.pair (.int .i64) .str))))))) (.slice .str)))) a)) := by
  have hm : msr (.slice (.pair .str (.pair (.slice (.pair .str (.pair (.int .i64) (.pair .bool (.pair .bool (.pair (.int .i64) (.pair (.int .i64) .str))))))) (.slice .str)))) a = msr (.slice (.pair .str (.pair (.slice (.pair .str (.pair (.int .i64) (.pair .bool (.pair .bool (.pair (.int .i64) (.pair (.int .i64) .str))))))) (.slice .str)))) a + 0 := rfl
  rw [hm]
  unfold laws_szCat
  rw [szTableS_eq _ _ (by omega) (by omega) hw]
  by_cases hb0 : ((msr (.slice (.pair .str (.pair (.slice (.pair .str (.pair (.int .i64) (.pair .bool (.pair .bool (.pair (.int .i64) (.pair (.int .i64) .str))))))) (.slice .str)))) a : Nat) : Int) ≤ left
  rotate_left
  · rw [szR_neg hb0, szR_stop hb0, dec_lt_t (by omega), cond_true]
  rw [szR_pos hb0, szR_step hb0, dec_lt_f (by omega), cond_false]
  exact sz_end (by omega)

theorem eqCat_eq (a : List (ByteArray × (List (ByteArray × Int × Bool × Bool × Int × Int × ByteArray)) × List ByteArray)) (h : msr (.slice (.pair .str (.pair (.slice (.pair .str (.pair (.int .i64) (.pair .bool (.pair .bool (.pair (.int .i64) (.pair (.int .i64) .str))))))) (.slice .str)))) a ≤ 1048576) (k : Bool → Res) : laws_eqCat a a k = k true := by
  have h0 : msr (.slice (.pair .str (.pair (.slice (.pair .str (.pair (.int .i64) (.pair .bool (.pair .bool (.pair (.int .i64) (.pair (.int .i64) .str))))))) (.slice .str)))) a ≤ 1048576 := h
  unfold laws_eqCat
  simp only [bne_f, sNe_self, beq_self_eq_true, cond_false, Bool.not_true, eqTableS_eq _ h0]
end Go.PI.G
