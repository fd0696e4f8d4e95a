/-
  Printed texts and plain laws. No conditions.
-/
import Derived.Test.YtcapkiofiipamaaGreatD4k
import Derived.Test.YtcapkiofiipamaaGreatD4i
import Derived.Test.YtcapkiofiipamaaGreatD4l
set_option linter.unusedVariables false
set_option linter.unusedSimpArgs false
set_option maxRecDepth 10000
namespace Go.PI.G
open Go Go.PI Go.Proofs

theorem toDb_eq (a : qF × List qR) (h : msr (.pair (.slice (.pair .str (.pair (.slice (.pair .str (.pair (.int .i64) (.pair .bool (.pair .bool (.pair (.int .i64) (.pair (.int .i64) .str))))))) (.slice .str)))) (.slice (.slice (.slice (.pair (.int .i64) (.pair (.int .i64) .str)))))) a ≤ 1048576) (k : qD → Res) : laws_toDb a k = k a := by
  have h0 : msr (.slice (.pair .str (.pair (.slice (.pair .str (.pair (.int .i64) (.pair .bool (.pair .bool (.pair (.int .i64) (.pair (.int .i64) .str))))))) (.slice .str)))) a.1 ≤ 1048576 := by
    have : msr (.slice (.pair .str (.pair (.slice (.pair .str (.pair (.int .i64) (.pair .bool (.pair .bool (.pair (.int .i64) (.pair (.int .i64) .str))))))) (.slice .str)))) a.1 ≤ msr (.pair (.slice (.pair .str (.pair (.slice (.pair .str (.pair (.int .i64) (.pair .bool (.pair .bool (.pair (.int .i64) (.pair (.int .i64) .str))))))) (.slice .str)))) (.slice (.slice (.slice (.pair (.int .i64) (.pair (.int .i64) .str)))))) a := by first | exact Nat.le_refl _ | (simp only [msr]; omega)
    omega
  have h1 : msr (.slice (.slice (.slice (.pair (.int .i64) (.pair (.int .i64) .str))))) a.2 ≤ 1048576 := by
    have : msr (.slice (.slice (.slice (.pair (.int .i64) (.pair (.int .i64) .str))))) a.2 ≤ msr (.pair (.slice (.pair .str (.pair (.slice (.pair .str (.pair (.int .i64) (.pair .bool (.pair .bool (.pair (.int .i64) (.pair (.int .i64) .str))))))) (.slice .str)))) (.slice (.slice (.slice (.pair (.int .i64) (.pair (.int .i64) .str)))))) a := by first | exact Nat.le_refl _ | (simp only [msr]; omega)
    omega
  unfold laws_toDb
  simp only [toCat_eq _ h0, toRowsS_eq _ h1]

theorem szDb_eq (a : qF × List qR) (left : Int) (h0 : 0 ≤ left) (h1 : left ≤ 1048576) (hw : Wf (.pair (.slice (.pair .str (.pair (.slice (.pair .str (.pair (.int .i64) (.pair .bool (.pair .bool (.pair (.int .i64) (.pair (.int .i64) .str))))))) (.slice .str)))) (.slice (.slice (.slice (.pair (.int .i64) (.pair (.int .i64) .str)))))) a) (k : Int → Res) : laws_szDb a left k = k (szR left (msr (.pair (.slice (.pair .str (.pair (.slice (.pair .str (.pair (.int .i64) (.pair .bool (.pair .bool (.pair (.int .i64) (.pair (.int .i64) .str))))))) (.slice .str)))) (.slice (.slice (.slice (.pair (.int .i64) (.pair (.int .i64) .str)))))) a)) := by
  have hm : msr (.pair (.slice (.pair .str (.pair (.slice (.pair .str (.pair (.int .i64) (.pair .bool (.pair .bool (.pair (.int .i64) (.pair (.int .i64) .str))))))) (.slice .str)))) (.slice (.slice (.slice (.pair (.int .i64) (.pair (.int .i64) .str)))))) a = msr (.slice (.pair .str (.pair (.slice (.pair .str (.pair (.int .i64) (.pair .bool (.pair .bool (.pair (.int .i64) (.pair (.int .i64) .str))))))) (.slice .str)))) a.1 + (msr (.slice (.slice (.slice (.pair (.int .i64) (.pair (.int .i64) .str))))) a.2 + 0) := by simp only [msr]; omega
  rw [hm]
  unfold laws_szDb
  rw [szCat_eq _ _ (by omega) (by omega) hw.1]
  by_cases hb0 : ((msr (.slice (.pair .str (.pair (.slice (.pair .str (.pair (.int .i64) (.pair .bool (.pair .bool (.pair (.int .i64) (.pair (.int .i64) .str))))))) (.slice .str)))) a.1 : Nat) : Int) ≤ left
  rotate_left
  · rw [szR_neg hb0, szR_stop hb0, dec_lt_t (by omega), cond_true]
  rw [szR_pos hb0, szR_step hb0, dec_lt_f (by omega), cond_false]
  rw [szRowsS_eq _ _ (by omega) (by omega) hw.2]
  by_cases hb1 : ((msr (.slice (.slice (.slice (.pair (.int .i64) (.pair (.int .i64) .str))))) a.2 : Nat) : Int) ≤ left - (msr (.slice (.pair .str (.pair (.slice (.pair .str (.pair (.int .i64) (.pair .bool (.pair .bool (.pair (.int .i64) (.pair (.int .i64) .str))))))) (.slice .str)))) a.1 : Nat)
  rotate_left
  · rw [szR_neg hb1, szR_stop hb1, dec_lt_t (by omega), cond_true]
  rw [szR_pos hb1, szR_step hb1, dec_lt_f (by omega), cond_false]
  exact sz_end (by omega)

theorem eqDb_eq (a : qF × List qR) (h : msr (.pair (.slice (.pair .str (.pair (.slice (.pair .str (.pair (.int .i64) (.pair .bool (.pair .bool (.pair (.int .i64) (.pair (.int .i64) .str))))))) (.slice .str)))) (.slice (.slice (.slice (.pair (.int .i64) (.pair (.int .i64) .str)))))) a ≤ 1048576) (k : Bool → Res) : laws_eqDb a a k = k true := by
  have h0 : msr (.slice (.pair .str (.pair (.slice (.pair .str (.pair (.int .i64) (.pair .bool (.pair .bool (.pair (.int .i64) (.pair (.int .i64) .str))))))) (.slice .str)))) a.1 ≤ 1048576 := by
    have : msr (.slice (.pair .str (.pair (.slice (.pair .str (.pair (.int .i64) (.pair .bool (.pair .bool (.pair (.int .i64) (.pair (.int .i64) .str))))))) (.slice .str)))) a.1 ≤ msr (.pair (.slice (.pair .str (.pair (.slice (.pair .str (.pair (.int .i64) (.pair .bool (.pair .bool (.pair (.int .i64) (.pair (.int .i64) .str))))))) (.slice .str)))) (.slice (.slice (.slice (.pair (.int .i64) (.pair (.int .i64) .str)))))) a := by first | exact Nat.le_refl _ | (simp only [msr]; omega)
    omega
  have h1 : msr (.slice (.slice (.slice (.pair (.int .i64) (.pair (.int .i64) .str))))) a.2 ≤ 1048576 := by
    have : msr (.slice (.slice (.slice (.pair (.int .i64) (.pair (.int .i64) .str))))) a.2 ≤ msr (.pair (.slice (.pair .str (.pair (.slice (.pair .str (.pair (.int .i64) (.pair .bool (.pair .bool (.pair (.int .i64) (.pair (.int .i64) .str))))))) (.slice .str)))) (.slice (.slice (.slice (.pair (.int .i64) (.pair (.int .i64) .str)))))) a := by first | exact Nat.le_refl _ | (simp only [msr]; omega)
    omega
  unfold laws_eqDb
  simp only [bne_f, sNe_self, beq_self_eq_true, cond_false, Bool.not_true, eqCat_eq _ h0, eqRowsS_eq _ h1]

theorem markDb_eq (a : qF × List qR) (k : Int) (h : msr (.pair (.slice (.pair .str (.pair (.slice (.pair .str (.pair (.int .i64) (.pair .bool (.pair .bool (.pair (.int .i64) (.pair (.int .i64) .str))))))) (.slice .str)))) (.slice (.slice (.slice (.pair (.int .i64) (.pair (.int .i64) .str)))))) a ≤ 1048576) (h0 : 1 ≤ k) (hk : k + (wgtT (.pair (.slice (.pair .str (.pair (.slice (.pair .str (.pair (.int .i64) (.pair .bool (.pair .bool (.pair (.int .i64) (.pair (.int .i64) .str))))))) (.slice .str)))) (.slice (.slice (.slice (.pair (.int .i64) (.pair (.int .i64) .str)))))) a : Int) ≤ 4294967296) (K : Int → qD → Res) : laws_markDb a k K = K (k + (wgtT (.pair (.slice (.pair .str (.pair (.slice (.pair .str (.pair (.int .i64) (.pair .bool (.pair .bool (.pair (.int .i64) (.pair (.int .i64) .str))))))) (.slice .str)))) (.slice (.slice (.slice (.pair (.int .i64) (.pair (.int .i64) .str)))))) a : Int)) (mkT (.pair (.slice (.pair .str (.pair (.slice (.pair .str (.pair (.int .i64) (.pair .bool (.pair .bool (.pair (.int .i64) (.pair (.int .i64) .str))))))) (.slice .str)))) (.slice (.slice (.slice (.pair (.int .i64) (.pair (.int .i64) .str)))))) a k) := by
  have h0 : msr (.slice (.pair .str (.pair (.slice (.pair .str (.pair (.int .i64) (.pair .bool (.pair .bool (.pair (.int .i64) (.pair (.int .i64) .str))))))) (.slice .str)))) a.1 ≤ 1048576 := by
    have : msr (.slice (.pair .str (.pair (.slice (.pair .str (.pair (.int .i64) (.pair .bool (.pair .bool (.pair (.int .i64) (.pair (.int .i64) .str))))))) (.slice .str)))) a.1 ≤ msr (.pair (.slice (.pair .str (.pair (.slice (.pair .str (.pair (.int .i64) (.pair .bool (.pair .bool (.pair (.int .i64) (.pair (.int .i64) .str))))))) (.slice .str)))) (.slice (.slice (.slice (.pair (.int .i64) (.pair (.int .i64) .str)))))) a := by first | exact Nat.le_refl _ | (simp only [msr]; omega)
    omega
  have h1 : msr (.slice (.slice (.slice (.pair (.int .i64) (.pair (.int .i64) .str))))) a.2 ≤ 1048576 := by
    have : msr (.slice (.slice (.slice (.pair (.int .i64) (.pair (.int .i64) .str))))) a.2 ≤ msr (.pair (.slice (.pair .str (.pair (.slice (.pair .str (.pair (.int .i64) (.pair .bool (.pair .bool (.pair (.int .i64) (.pair (.int .i64) .str))))))) (.slice .str)))) (.slice (.slice (.slice (.pair (.int .i64) (.pair (.int .i64) .str)))))) a := by first | exact Nat.le_refl _ | (simp only [msr]; omega)
    omega
  have g0 : msr (.slice (.pair .str (.pair (.slice (.pair .str (.pair (.int .i64) (.pair .bool (.pair .bool (.pair (.int .i64) (.pair (.int .i64) .str))))))) (.slice .str)))) a.1 ≤ 1048576 := by
    have : msr (.slice (.pair .str (.pair (.slice (.pair .str (.pair (.int .i64) (.pair .bool (.pair .bool (.pair (.int .i64) (.pair (.int .i64) .str))))))) (.slice .str)))) a.1 ≤ msr (.pair (.slice (.pair .str (.pair (.slice (.pair .str (.pair (.int .i64) (.pair .bool (.pair .bool (.pair (.int .i64) (.pair (.int .i64) .str))))))) (.slice .str)))) (.slice (.slice (.slice (.pair (.int .i64) (.pair (.int .i64) .str)))))) a := by first | exact Nat.le_refl _ | (simp only [msr]; omega)
    omega
  have g1 : msr (.slice (.slice (.slice (.pair (.int .i64) (.pair (.int .i64) .str))))) a.2 ≤ 1048576 := by
    have : msr (.slice (.slice (.slice (.pair (.int .i64) (.pair (.int .i64) .str))))) a.2 ≤ msr (.pair (.slice (.pair .str (.pair (.slice (.pair .str (.pair (.int .i64) (.pair .bool (.pair .bool (.pair (.int .i64) (.pair (.int .i64) .str))))))) (.slice .str)))) (.slice (.slice (.slice (.pair (.int .i64) (.pair (.int .i64) .str)))))) a := by first | exact Nat.le_refl _ | (simp only [msr]; omega)
    omega
  have hw : wgtT (.pair (.slice (.pair .str (.pair (.slice (.pair .str (.pair (.int .i64) (.pair .bool (.pair .bool (.pair (.int .i64) (.pair (.int .i64) .str))))))) (.slice .str)))) (.slice (.slice (.slice (.pair (.int .i64) (.pair (.int .i64) .str)))))) a = wgt (.slice (.pair .str (.pair (.slice (.pair .str (.pair (.int .i64) (.pair .bool (.pair .bool (.pair (.int .i64) (.pair (.int .i64) .str))))))) (.slice .str)))) a.1 + wgt (.slice (.slice (.slice (.pair (.int .i64) (.pair (.int .i64) .str))))) a.2 := by first | rfl | (simp only [wgtT_pair, wgtT_slice, wgtT_int, wgtT_bool, wgtT_str, Nat.zero_add, Nat.add_zero]; done) | (simp only [wgtT_pair, wgtT_slice, wgtT_int, wgtT_bool, wgtT_str, Nat.zero_add, Nat.add_zero]; omega)
  have w0 : wgtT (.slice (.pair .str (.pair (.slice (.pair .str (.pair (.int .i64) (.pair .bool (.pair .bool (.pair (.int .i64) (.pair (.int .i64) .str))))))) (.slice .str)))) a.1 = wgt (.slice (.pair .str (.pair (.slice (.pair .str (.pair (.int .i64) (.pair .bool (.pair .bool (.pair (.int .i64) (.pair (.int .i64) .str))))))) (.slice .str)))) a.1 := by first | rfl | (simp only [wgtT, wgt]; omega)
  have w1 : wgtT (.slice (.slice (.slice (.pair (.int .i64) (.pair (.int .i64) .str))))) a.2 = wgt (.slice (.slice (.slice (.pair (.int .i64) (.pair (.int .i64) .str))))) a.2 := by first | rfl | (simp only [wgtT, wgt]; omega)
  unfold laws_markDb
  simp (disch := first | assumption | omega) only [markCat_eq, markRowsS_eq]
  first | rfl | (simp only [mkT_pair (.slice (.pair .str (.pair (.slice (.pair .str (.pair (.int .i64) (.pair .bool (.pair .bool (.pair (.int .i64) (.pair (.int .i64) .str))))))) (.slice .str)))) (.slice (.slice (.slice (.pair (.int .i64) (.pair (.int .i64) .str))))), wgtT_pair (.slice (.pair .str (.pair (.slice (.pair .str (.pair (.int .i64) (.pair .bool (.pair .bool (.pair (.int .i64) (.pair (.int .i64) .str))))))) (.slice .str)))) (.slice (.slice (.slice (.pair (.int .i64) (.pair (.int .i64) .str))))), mkT_slice, mkT_int, mkT_bool, mkT_str, wgtT_slice, wgtT_int, wgtT_bool, wgtT_str, Int.natCast_add, Int.natCast_zero, Int.cast_ofNat_Int, Nat.zero_add, Nat.add_zero, Int.add_zero, ← Int.add_assoc]; done) | (simp only [mkT_pair (.slice (.pair .str (.pair (.slice (.pair .str (.pair (.int .i64) (.pair .bool (.pair .bool (.pair (.int .i64) (.pair (.int .i64) .str))))))) (.slice .str)))) (.slice (.slice (.slice (.pair (.int .i64) (.pair (.int .i64) .str))))), wgtT_pair (.slice (.pair .str (.pair (.slice (.pair .str (.pair (.int .i64) (.pair .bool (.pair .bool (.pair (.int .i64) (.pair (.int .i64) .str))))))) (.slice .str)))) (.slice (.slice (.slice (.pair (.int .i64) (.pair (.int .i64) .str))))), mkT_slice, mkT_int, mkT_bool, mkT_str, wgtT_slice, wgtT_int, wgtT_bool, wgtT_str, Int.natCast_add, Int.natCast_zero, Int.cast_ofNat_Int, Nat.zero_add, Nat.add_zero, Int.add_zero, ← Int.add_assoc]; rfl)

theorem heldDb_eq (a : qF × List qR) (k : Int) (h : msr (.pair (.slice (.pair .str (.pair (.slice (.pair .str (.pair (.int .i64) (.pair .bool (.pair .bool (.pair (.int .i64) (.pair (.int .i64) .str))))))) (.slice .str)))) (.slice (.slice (.slice (.pair (.int .i64) (.pair (.int .i64) .str)))))) a ≤ 1048576) (h0 : 1 ≤ k) (hk : k + (wgtT (.pair (.slice (.pair .str (.pair (.slice (.pair .str (.pair (.int .i64) (.pair .bool (.pair .bool (.pair (.int .i64) (.pair (.int .i64) .str))))))) (.slice .str)))) (.slice (.slice (.slice (.pair (.int .i64) (.pair (.int .i64) .str)))))) a : Int) ≤ 4294967296) (K : Int → Res) : laws_heldDb (mkT (.pair (.slice (.pair .str (.pair (.slice (.pair .str (.pair (.int .i64) (.pair .bool (.pair .bool (.pair (.int .i64) (.pair (.int .i64) .str))))))) (.slice .str)))) (.slice (.slice (.slice (.pair (.int .i64) (.pair (.int .i64) .str)))))) a k) k K = K (k + (wgtT (.pair (.slice (.pair .str (.pair (.slice (.pair .str (.pair (.int .i64) (.pair .bool (.pair .bool (.pair (.int .i64) (.pair (.int .i64) .str))))))) (.slice .str)))) (.slice (.slice (.slice (.pair (.int .i64) (.pair (.int .i64) .str)))))) a : Int)) := by
  have h0 : msr (.slice (.pair .str (.pair (.slice (.pair .str (.pair (.int .i64) (.pair .bool (.pair .bool (.pair (.int .i64) (.pair (.int .i64) .str))))))) (.slice .str)))) a.1 ≤ 1048576 := by
    have : msr (.slice (.pair .str (.pair (.slice (.pair .str (.pair (.int .i64) (.pair .bool (.pair .bool (.pair (.int .i64) (.pair (.int .i64) .str))))))) (.slice .str)))) a.1 ≤ msr (.pair (.slice (.pair .str (.pair (.slice (.pair .str (.pair (.int .i64) (.pair .bool (.pair .bool (.pair (.int .i64) (.pair (.int .i64) .str))))))) (.slice .str)))) (.slice (.slice (.slice (.pair (.int .i64) (.pair (.int .i64) .str)))))) a := by first | exact Nat.le_refl _ | (simp only [msr]; omega)
    omega
  have h1 : msr (.slice (.slice (.slice (.pair (.int .i64) (.pair (.int .i64) .str))))) a.2 ≤ 1048576 := by
    have : msr (.slice (.slice (.slice (.pair (.int .i64) (.pair (.int .i64) .str))))) a.2 ≤ msr (.pair (.slice (.pair .str (.pair (.slice (.pair .str (.pair (.int .i64) (.pair .bool (.pair .bool (.pair (.int .i64) (.pair (.int .i64) .str))))))) (.slice .str)))) (.slice (.slice (.slice (.pair (.int .i64) (.pair (.int .i64) .str)))))) a := by first | exact Nat.le_refl _ | (simp only [msr]; omega)
    omega
  have g0 : msr (.slice (.pair .str (.pair (.slice (.pair .str (.pair (.int .i64) (.pair .bool (.pair .bool (.pair (.int .i64) (.pair (.int .i64) .str))))))) (.slice .str)))) a.1 ≤ 1048576 := by
    have : msr (.slice (.pair .str (.pair (.slice (.pair .str (.pair (.int .i64) (.pair .bool (.pair .bool (.pair (.int .i64) (.pair (.int .i64) .str))))))) (.slice .str)))) a.1 ≤ msr (.pair (.slice (.pair .str (.pair (.slice (.pair .str (.pair (.int .i64) (.pair .bool (.pair .bool (.pair (.int .i64) (.pair (.int .i64) .str))))))) (.slice .str)))) (.slice (.slice (.slice (.pair (.int .i64) (.pair (.int .i64) .str)))))) a := by first | exact Nat.le_refl _ | (simp only [msr]; omega)
    omega
  have g1 : msr (.slice (.slice (.slice (.pair (.int .i64) (.pair (.int .i64) .str))))) a.2 ≤ 1048576 := by
    have : msr (.slice (.slice (.slice (.pair (.int .i64) (.pair (.int .i64) .str))))) a.2 ≤ msr (.pair (.slice (.pair .str (.pair (.slice (.pair .str (.pair (.int .i64) (.pair .bool (.pair .bool (.pair (.int .i64) (.pair (.int .i64) .str))))))) (.slice .str)))) (.slice (.slice (.slice (.pair (.int .i64) (.pair (.int .i64) .str)))))) a := by first | exact Nat.le_refl _ | (simp only [msr]; omega)
    omega
  have hw : wgtT (.pair (.slice (.pair .str (.pair (.slice (.pair .str (.pair (.int .i64) (.pair .bool (.pair .bool (.pair (.int .i64) (.pair (.int .i64) .str))))))) (.slice .str)))) (.slice (.slice (.slice (.pair (.int .i64) (.pair (.int .i64) .str)))))) a = wgt (.slice (.pair .str (.pair (.slice (.pair .str (.pair (.int .i64) (.pair .bool (.pair .bool (.pair (.int .i64) (.pair (.int .i64) .str))))))) (.slice .str)))) a.1 + wgt (.slice (.slice (.slice (.pair (.int .i64) (.pair (.int .i64) .str))))) a.2 := by first | rfl | (simp only [wgtT_pair, wgtT_slice, wgtT_int, wgtT_bool, wgtT_str, Nat.zero_add, Nat.add_zero]; done) | (simp only [wgtT_pair, wgtT_slice, wgtT_int, wgtT_bool, wgtT_str, Nat.zero_add, Nat.add_zero]; omega)
  have w0 : wgtT (.slice (.pair .str (.pair (.slice (.pair .str (.pair (.int .i64) (.pair .bool (.pair .bool (.pair (.int .i64) (.pair (.int .i64) .str))))))) (.slice .str)))) a.1 = wgt (.slice (.pair .str (.pair (.slice (.pair .str (.pair (.int .i64) (.pair .bool (.pair .bool (.pair (.int .i64) (.pair (.int .i64) .str))))))) (.slice .str)))) a.1 := by first | rfl | (simp only [wgtT, wgt]; omega)
  have w1 : wgtT (.slice (.slice (.slice (.pair (.int .i64) (.pair (.int .i64) .str))))) a.2 = wgt (.slice (.slice (.slice (.pair (.int .i64) (.pair (.int .i64) .str))))) a.2 := by first | rfl | (simp only [wgtT, wgt]; omega)
  unfold laws_heldDb
  simp (disch := first | assumption | omega) only [mkT_pair (.slice (.pair .str (.pair (.slice (.pair .str (.pair (.int .i64) (.pair .bool (.pair .bool (.pair (.int .i64) (.pair (.int .i64) .str))))))) (.slice .str)))) (.slice (.slice (.slice (.pair (.int .i64) (.pair (.int .i64) .str))))), wgtT_pair (.slice (.pair .str (.pair (.slice (.pair .str (.pair (.int .i64) (.pair .bool (.pair .bool (.pair (.int .i64) (.pair (.int .i64) .str))))))) (.slice .str)))) (.slice (.slice (.slice (.pair (.int .i64) (.pair (.int .i64) .str))))), mkT_slice, mkT_int, mkT_bool, mkT_str, wgtT_slice, wgtT_int, wgtT_bool, wgtT_str, Int.natCast_add, Int.natCast_zero, Int.cast_ofNat_Int, Nat.zero_add, Nat.add_zero, Int.add_zero, ← Int.add_assoc, heldCat_eq, heldRowsS_eq, dec_lt_f, cond_false]
  all_goals (repeat (show (bif decide (_ < (0 : Int)) then _ else _) = _; rw [dec_lt_f (by omega), cond_false]))
  all_goals first | done | rfl | (congr 1; omega)
end Go.PI.G
namespace Go.PI.G
open Go Go.PI Go.Proofs

theorem toPub_eq (a : List ByteArray) (h : msr (.slice .str) a ≤ 1048576) (k : (List ByteArray) → Res) : laws_toPub a k = k a := by
  have h0 : msr (.slice .str) a ≤ 1048576 := h
  unfold laws_toPub
  simp only [toStringS_eq _ h0]

theorem szPub_eq (a : List ByteArray) (left : Int) (h0 : 0 ≤ left) (h1 : left ≤ 1048576) (hw : Wf (.slice .str) a) (k : Int → Res) : laws_szPub a left k = k (szR left (msr (.slice .str) a)) := by
  have hm : msr (.slice .str) a = msr (.slice .str) a + 0 := rfl
  rw [hm]
  unfold laws_szPub
  rw [szStringS_eq _ _ (by omega) (by omega) hw]
  by_cases hb0 : ((msr (.slice .str) a : Nat) : Int) ≤ left
  rotate_left
  · rw [szR_neg hb0, szR_stop hb0, dec_lt_t (by omega), cond_true]
  rw [szR_pos hb0, szR_step hb0, dec_lt_f (by omega), cond_false]
  exact sz_end (by omega)

theorem eqPub_eq (a : List ByteArray) (h : msr (.slice .str) a ≤ 1048576) (k : Bool → Res) : laws_eqPub a a k = k true := by
  have h0 : msr (.slice .str) a ≤ 1048576 := h
  unfold laws_eqPub
  simp only [bne_f, sNe_self, beq_self_eq_true, cond_false, Bool.not_true, eqStringS_eq _ h0]

theorem markPub_eq (a : List ByteArray) (k : Int) (h : msr (.slice .str) a ≤ 1048576) (h0 : 1 ≤ k) (hk : k + (wgtT (.slice .str) a : Int) ≤ 4294967296) (K : Int → (List ByteArray) → Res) : laws_markPub a k K = K (k + (wgtT (.slice .str) a : Int)) (mkT (.slice .str) a k) := by
  have h0 : msr (.slice .str) a ≤ 1048576 := by
    have : msr (.slice .str) a ≤ msr (.slice .str) a := by first | exact Nat.le_refl _ | (simp only [msr]; omega)
    omega
  have g0 : msr (.slice .str) a ≤ 1048576 := by
    have : msr (.slice .str) a ≤ msr (.slice .str) a := by first | exact Nat.le_refl _ | (simp only [msr]; omega)
    omega
  have hw : wgtT (.slice .str) a = wgt (.slice .str) a := by first | rfl | (simp only [wgtT_pair, wgtT_slice, wgtT_int, wgtT_bool, wgtT_str, Nat.zero_add, Nat.add_zero]; done) | (simp only [wgtT_pair, wgtT_slice, wgtT_int, wgtT_bool, wgtT_str, Nat.zero_add, Nat.add_zero]; omega)
  have w0 : wgtT (.slice .str) a = wgt (.slice .str) a := by first | rfl | (simp only [wgtT, wgt]; omega)
  unfold laws_markPub
  simp (disch := first | assumption | omega) only [markStringS_eq]
  first | rfl | (simp only [mkT_slice, mkT_int, mkT_bool, mkT_str, wgtT_slice, wgtT_int, wgtT_bool, wgtT_str, Int.natCast_add, Int.natCast_zero, Int.cast_ofNat_Int, Nat.zero_add, Nat.add_zero, Int.add_zero, ← Int.add_assoc]; done) | (simp only [mkT_slice, mkT_int, mkT_bool, mkT_str, wgtT_slice, wgtT_int, wgtT_bool, wgtT_str, Int.natCast_add, Int.natCast_zero, Int.cast_ofNat_Int, Nat.zero_add, Nat.add_zero, Int.add_zero, ← Int.add_assoc]; rfl)
end Go.PI.G
namespace Go.PI.G
open Go Go.PI Go.Proofs

theorem row_FnExactPubDb (x0 : List ByteArray) (w0 : Wf (.slice .str) x0) (x1 : DB) (w1 : Wf yDB x1) (k : Bool → Res) : laws_FnExactPubDb x0 x1 k = k true := by
  unfold laws_FnExactPubDb
  rw [szPub_eq x0 1048576 (by omega) (by omega) w0]
  by_cases hm : ((msr (.slice .str) x0 : Nat) : Int) ≤ 1048576
  rotate_left
  · rw [szR_neg hm]; rfl
  have hm' : msr (.slice .str) x0 ≤ 1048576 := by omega
  rw [szR_pos hm, decide_eq_false (by omega), cond_false, szDb_eq x1 (1048576 - ((msr (.slice .str) x0 : Nat) : Int)) (by omega) (by omega) w1]
  by_cases hn : ((msr yDB x1 : Nat) : Int) ≤ 1048576 - ((msr (.slice .str) x0 : Nat) : Int)
  rotate_left
  · rw [szR_neg hn]; rfl
  have hn' : msr yDB x1 ≤ 1048576 := by omega
  have e0 : ∀ K : DB → Res, laws_FnExactPubDb_p0 x0 x1 K = K (pubV x0 x1) := fun K => by
    unfold laws_FnExactPubDb_p0
    simp only [both_self]
    rw [toPub_eq x0 hm', toDb_eq x1 hn', specPubDb_eq x0 x1 hm' hn']
  have e1 : ∀ K : DB → Res, laws_FnExactPubDb_p1 x0 x1 K = K (pubV x0 x1) := fun K => by
    unfold laws_FnExactPubDb_p1
    simp only [both_self]
    rw [toPub_eq x0 hm', toDb_eq x1 hn', implPubDb_eq x0 x1 hm' hn']
  rw [szR_pos hn, decide_eq_false (by omega), cond_false, e0, toPub_eq x0 hm', toDb_eq x1 hn', implPubDb_eq x0 x1 hm' hn']
  have hq := pubV_msr x0 x1 hn'
  rw [eqDb_eq _ hq, Bool.not_true, cond_false, toPub_eq x0 hm', eqPub_eq x0 hm', Bool.not_true, cond_false, toDb_eq x1 hn', eqDb_eq x1 hn', Bool.not_true, cond_false]
  have f0 := wgt_small (τ := .slice .str) (by decide) hm'
  have f0' := wgtT_le_wgt (.slice .str) x0
  have f1 := wgt_small (τ := yDB) (by decide) hn'
  have f1' := wgtT_le_wgt yDB x1
  have f2 := wgt_small (τ := yDB) (by decide) hq
  have f2' := wgtT_le_wgt yDB (pubV x0 x1)
  have k0 : (1 : Int) + ((wgtT (.slice .str) x0 : Nat) : Int) ≤ 4294967296 := by omega
  have k1 : (1 : Int) + ((wgtT (.slice .str) x0 : Nat) : Int) + ((wgtT yDB x1 : Nat) : Int) ≤ 4294967296 := by omega
  have k2 : (1 : Int) + ((wgtT yDB (pubV x0 x1) : Nat) : Int) ≤ 4294967296 := by omega
  unfold laws_FnExactPubDb_p2
  rw [markPub_eq x0 1 hm' (by omega) k0, markDb_eq x1 _ hn' (by omega) k1, decide_eq_false (by omega), cond_false, eqDb_eq _ hq, Bool.not_true, cond_false, markDb_eq _ 1 hq (by omega) k2, heldDb_eq _ 1 hq (by omega) k2, decide_eq_false (by omega), cond_false, bne_f, cond_false, e1, eqDb_eq _ hq, Bool.not_true, cond_false, heldDb_eq _ 1 hq (by omega) k2, decide_eq_false (by omega), cond_false, bne_f, cond_false]
end Go.PI.G
