/-
  RowsMend: the plain law. No conditions.
-/
import Derived.Test.YtcapkiofiipamaaGRXRowsMend
import Derived.Test.YtcapkiofiipamaaGRN17
import Derived.Test.YtcapkiofiipamaaGRN17w
import Derived.Test.YtcapkiofiipamaaGRNTTable
import Derived.Test.YtcapkiofiipamaaGRNTRowS
import Derived.Test.YtcapkiofiipamaaGRNTStmtS
set_option linter.unusedVariables false
set_option linter.unusedSimpArgs false
namespace Go.PI.G
open Go Go.PI Go.Proofs

theorem implRM_eq (t : T) (h : msr yT t ≤ 1048576) (a b : List (List V)) (k : List ST → Bool → Res) : impl_RowsMend t a b k = bif rowsB t a && rowsB t b then k (mendS t a b) true else k [] false := by
  unfold impl_RowsMend
  rw [implRows_eq t h, implRows_eq t h]
  cases ha : rowsB t a
  · rfl
  · cases hb : rowsB t b
    · rfl
    · rw [Bool.not_true, cond_false, cond_false, implRowsMend_eq t h a b ha hb]
      rfl
def rmV (t : T) (a b : List (List V)) : List ST × Bool := bif rowsB t a && rowsB t b then (mendS t a b, true) else ([], false)
theorem specRM (t : T) (h : msr yT t ≤ 1048576) (a b : List (List V)) (k : List ST → Bool → Res) : spec_RowsMend t a b k = k (rmV t a b).1 (rmV t a b).2 := by
  rw [specRowsMend_eq t h]; unfold rmV
  cases rowsB t a && rowsB t b <;> rfl
theorem implRM (t : T) (h : msr yT t ≤ 1048576) (a b : List (List V)) (k : List ST → Bool → Res) : impl_RowsMend t a b k = k (rmV t a b).1 (rmV t a b).2 := by
  rw [implRM_eq t h]; unfold rmV
  cases rowsB t a && rowsB t b <;> rfl
theorem rmV_msr (t : T) (a b : List (List V)) : msr (.slice yST) (rmV t a b).1 ≤ 1048576 := by
  unfold rmV
  cases ha : rowsB t a
  · exact Nat.zero_le _
  · cases hb : rowsB t b
    · exact Nat.zero_le _
    · exact mendS_msr t a b ha hb

theorem row_FnExactRowsMend (x0 : T) (w0 : Wf yT x0) (x1 : List (List V)) (w1 : Wf (.slice (.slice yV)) x1) (x2 : List (List V)) (w2 : Wf (.slice (.slice yV)) x2) (k : Bool → Res) : laws_FnExactRowsMend x0 x1 x2 k = k true := by
  unfold laws_FnExactRowsMend
  rw [szTable_eq x0 1048576 (by omega) (by omega) w0]
  by_cases hm : ((msr yT x0 : Nat) : Int) ≤ 1048576
  rotate_left
  · rw [szR_neg hm]; rfl
  have hm' : msr yT x0 ≤ 1048576 := by omega
  rw [szR_pos hm, decide_eq_false (by omega), cond_false, szRowS_eq x1 (1048576 - ((msr yT x0 : Nat) : Int)) (by omega) (by omega) w1]
  by_cases hn : ((msr (.slice (.slice yV)) x1 : Nat) : Int) ≤ 1048576 - ((msr yT x0 : Nat) : Int)
  rotate_left
  · rw [szR_neg hn]; rfl
  have hn' : msr (.slice (.slice yV)) x1 ≤ 1048576 := by omega
  rw [szR_pos hn, decide_eq_false (by omega), cond_false, szRowS_eq x2 (1048576 - ((msr yT x0 : Nat) : Int) - ((msr (.slice (.slice yV)) x1 : Nat) : Int)) (by omega) (by omega) w2]
  by_cases ho : ((msr (.slice (.slice yV)) x2 : Nat) : Int) ≤ 1048576 - ((msr yT x0 : Nat) : Int) - ((msr (.slice (.slice yV)) x1 : Nat) : Int)
  rotate_left
  · rw [szR_neg ho]; rfl
  have ho' : msr (.slice (.slice yV)) x2 ≤ 1048576 := by omega
  rw [szR_pos ho, decide_eq_false (by omega), cond_false, toTable_eq x0 hm', toRowS_eq x1 hn', toRowS_eq x2 ho', specRM x0 hm', toTable_eq x0 hm', toRowS_eq x1 hn']
  have hq := rmV_msr x0 x1 x2
  generalize hr : rmV x0 x1 x2 = r at hq
  obtain ⟨l, ok⟩ := r
  have hb : ∀ x : Bool, (x == x) = true := by decide
  unfold laws_FnExactRowsMend_p2
  rw [toRowS_eq x2 ho', implRM x0 hm', hr]
  dsimp only at hq ⊢
  rw [eqStmtS_eq _ hq, Bool.not_true, cond_false, hb, Bool.not_true, cond_false, toTable_eq x0 hm', eqTable_eq x0 hm', Bool.not_true, cond_false, toRowS_eq x1 hn', eqRowS_eq x1 hn', Bool.not_true, cond_false, toRowS_eq x2 ho', eqRowS_eq x2 ho', Bool.not_true, cond_false]
  have e0 := wgt_small (τ := yT) (by decide) hm'
  have e0' := wgtT_le_wgt yT x0
  have e1 := wgt_small (τ := .slice (.slice yV)) (by decide) hn'
  have e2 := wgt_small (τ := .slice (.slice yV)) (by decide) ho'
  have e3 := wgt_small (τ := .slice yST) (by decide) hq
  have k0 : (1 : Int) + ((wgtT yT x0 : Nat) : Int) ≤ 4294967296 := by omega
  have k1 : (1 : Int) + ((wgtT yT x0 : Nat) : Int) + ((wgt (.slice (.slice yV)) x1 : Nat) : Int) ≤ 4294967296 := by omega
  have k2 : (1 : Int) + ((wgtT yT x0 : Nat) : Int) + ((wgt (.slice (.slice yV)) x1 : Nat) : Int) + ((wgt (.slice (.slice yV)) x2 : Nat) : Int) ≤ 4294967296 := by omega
  have k3 : (1 : Int) + ((wgt (.slice yST) l : Nat) : Int) ≤ 4294967296 := by omega
  unfold laws_FnExactRowsMend_p1
  rw [markTable_eq x0 1 hm' (by omega) k0, markRowS_eq x1 _ hn' (by omega) k1, markRowS_eq x2 _ ho' (by omega) k2, decide_eq_false (by omega), cond_false, eqStmtS_eq _ hq, Bool.not_true, cond_false, hb, Bool.not_true, cond_false, markStmtS_eq _ 1 hq (by omega) k3, heldStmtS_eq _ 1 hq (by omega) k3, decide_eq_false (by omega), cond_false]
  unfold laws_FnExactRowsMend_p0
  rw [bne_f, cond_false, toTable_eq x0 hm', toRowS_eq x1 hn', toRowS_eq x2 ho', implRM x0 hm', hr]
  dsimp only
  rw [eqStmtS_eq _ hq, Bool.not_true, cond_false, hb, Bool.not_true, cond_false, heldStmtS_eq _ 1 hq (by omega) k3, decide_eq_false (by omega), cond_false, bne_f, cond_false]
end Go.PI.G
