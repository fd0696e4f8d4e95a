/-
  Far: the plain law. No conditions.
-/
import Derived.Test.YtcapkiofiipamaaGFXFar
import Derived.Test.YtcapkiofiipamaaGFN17m
import Derived.Test.YtcapkiofiipamaaGFNTDb
set_option linter.unusedVariables false
set_option linter.unusedSimpArgs false
namespace Go.PI.G
open Go Go.PI Go.Proofs

def farV (a b : DB) : Int := bif dbB a && (dbB b && alike zT sameT a.1 b.1) then nI (mendV a b).length else -1
theorem specFar_eq (a b : DB) (ha : msr yDB a ≤ 1048576) (hb : msr yDB b ≤ 1048576) (k : Int → Res) : spec_Far a b k = k (farV a b) := by
  unfold spec_Far farV
  rw [specMend_eq a b ha hb]
  cases dbB a && (dbB b && alike zT sameT a.1 b.1) <;> rfl
theorem implFar_eq (a b : DB) (ha : msr yDB a ≤ 1048576) (hb : msr yDB b ≤ 1048576) (k : Int → Res) : impl_Far a b k = k (farV a b) := by
  unfold impl_Far farV
  rw [implMend_eq a b ha hb]
  cases dbB a && (dbB b && alike zT sameT a.1 b.1) <;> rfl
theorem row_FnExactFar (x0 : DB) (w0 : Wf yDB x0) (x1 : DB) (w1 : Wf yDB x1) (k : Bool → Res) : laws_FnExactFar x0 x1 k = k true := by
  unfold laws_FnExactFar
  rw [szDb_eq x0 1048576 (by omega) (by omega) w0]
  by_cases hm : ((msr yDB x0 : Nat) : Int) ≤ 1048576
  rotate_left
  · rw [szR_neg hm]; rfl
  have hm' : msr yDB x0 ≤ 1048576 := by omega
  rw [szR_pos hm, decide_eq_false (by omega), cond_false, szDb_eq x1 (1048576 - ((msr yDB x0 : Nat) : Int)) (by omega) (by omega) w1]
  by_cases hn : ((msr yDB x1 : Nat) : Int) ≤ 1048576 - ((msr yDB x0 : Nat) : Int)
  rotate_left
  · rw [szR_neg hn]; rfl
  have hn' : msr yDB x1 ≤ 1048576 := by omega
  rw [szR_pos hn, decide_eq_false (by omega), cond_false, toDb_eq x0 hm', toDb_eq x1 hn', specFar_eq x0 x1 hm' hn', toDb_eq x0 hm', toDb_eq x1 hn', implFar_eq x0 x1 hm' hn', bne_f, cond_false, toDb_eq x0 hm', eqDb_eq x0 hm', Bool.not_true, cond_false, toDb_eq x1 hn', eqDb_eq x1 hn', Bool.not_true, cond_false]
end Go.PI.G
