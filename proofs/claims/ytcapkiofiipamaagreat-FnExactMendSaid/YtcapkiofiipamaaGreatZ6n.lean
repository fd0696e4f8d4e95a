/-
  Printed texts and plain laws. No conditions.
-/
import Derived.Test.YtcapkiofiipamaaGreatZ6l
import Derived.Test.YtcapkiofiipamaaGreatZ6i
import Derived.Test.YtcapkiofiipamaaGreatZ6m
import Derived.Test.YtcapkiofiipamaaGreatZ6j
set_option linter.unusedVariables false
set_option linter.unusedSimpArgs false
set_option maxRecDepth 10000
namespace Go.PI.G
open Go Go.PI Go.Proofs

theorem toRowsS_eq (a : qX) (h : msr (.slice (.slice (.slice (.pair (.int .i64) (.pair (.int .i64) .str))))) a ≤ 1048576) (k : qX → Res) : laws_toRowsS a k = k a := by
  have hl : a.length ≤ 1048576 := msr_len h
  unfold laws_toRowsS
  rw [mkOk_of (by unfold LIM; omega), cond_true]
  have := to_loop ([]) a id (step := laws_toRowsS_l0_s a) (fun out => k out) (by unfold LIM; omega) (fun out i rec hi hlo => by
    show laws_toRowsS_l0_r a _ _ _ _ = _
    unfold laws_toRowsS_l0_r
    dsimp only
    simp only [nI_lt hi, cond_true, inb_nat hi, inb_nat (show i < out.length by omega), nth_nat _ _ _ hi, upd_nat, wi64_in (n := (i : Int) + 1) (by omega), toRows_eq _ (msr_mem h (List.getElem_mem hi))]
    rfl) (fun out rec => by
    show laws_toRowsS_l0_r a _ _ _ _ = _
    unfold laws_toRowsS_l0_r
    dsimp only
    rw [nI_ge, cond_false])
  rw [List.map_id] at this
  exact this

theorem szRowsS_eq (a : qX) (left : Int) (h0 : 0 ≤ left) (h1 : left ≤ 1048576) (hw : Wf (.slice (.slice (.slice (.pair (.int .i64) (.pair (.int .i64) .str))))) a) (k : Int → Res) : laws_szRowsS a left k = k (szR left (msr (.slice (.slice (.slice (.pair (.int .i64) (.pair (.int .i64) .str))))) a)) := by
  have hl : a.length ≤ maxLen := hw.1
  have hm : msr (.slice (.slice (.slice (.pair (.int .i64) (.pair (.int .i64) .str))))) a = a.length + (a.map (msr (.slice (.slice (.pair (.int .i64) (.pair (.int .i64) .str)))))).sum := rfl
  rw [hm]
  unfold laws_szRowsS
  refine sz_str (F := fun q => laws_szRowsS_l0 a FUEL q 0 (fun left1 => k left1) (fun _ => k (-1))) (k := k) h0 h1 hl fun hb => ?_
  unfold laws_szRowsS_l0
  rw [sz_loop (msr (.slice (.slice (.pair (.int .i64) (.pair (.int .i64) .str))))) a _ (by omega) (fun left i rec hi h0 h1 => ?_) (fun left rec => ?_) _ (by omega) (by omega)]
  · by_cases hb : (((a.map (msr (.slice (.slice (.pair (.int .i64) (.pair (.int .i64) .str)))))).sum : Nat) : Int) ≤ left - a.length
    · rw [if_pos hb, szR_pos hb]
    · rw [if_neg hb, szR_neg hb]
  · show laws_szRowsS_l0_r a _ _ _ _ _ = _
    have hx := hw.2 _ (List.getElem_mem hi)
    unfold laws_szRowsS_l0_r
    rw [nI_lt hi, cond_true, inb_nat hi, cond_true, nth_nat _ _ _ hi, szRows_eq _ _ h0 h1 hx]
    have hi9 : (i : Int) < 4611686018427387904 := by unfold maxLen at hl; omega
    rw [wi64_in (n := (i : Int) + 1) (by omega)]
    by_cases hb : ((msr (.slice (.slice (.pair (.int .i64) (.pair (.int .i64) .str)))) a[i] : Nat) : Int) ≤ left
    · rw [if_pos hb, szR_pos hb, dec_lt_f (by omega), cond_false]
    · rw [if_neg hb, szR_neg hb, dec_lt_t (by omega), cond_true]
  · show laws_szRowsS_l0_r a _ _ _ _ _ = _
    unfold laws_szRowsS_l0_r
    rw [nI_ge, cond_false]

theorem eqRowsS_eq (a : qX) (h : msr (.slice (.slice (.slice (.pair (.int .i64) (.pair (.int .i64) .str))))) a ≤ 1048576) (k : Bool → Res) : laws_eqRowsS a a k = k true := by
  have hl : a.length ≤ 1048576 := msr_len h
  unfold laws_eqRowsS
  rw [bne_f, cond_false]
  unfold laws_eqRowsS_l0
  rw [eq_loop a _ (by unfold LIM; omega) (fun i rec hi => ?_) (fun rec => ?_)]
  · show laws_eqRowsS_l0_r a a _ _ _ _ = _
    unfold laws_eqRowsS_l0_r
    simp only [nI_lt hi, cond_true, inb_nat hi, nth_nat _ _ _ hi, wi64_in (n := (i : Int) + 1) (by omega), bne_f, sNe_self, cond_false, Bool.not_true, eqRows_eq _ (msr_mem h (List.getElem_mem hi))]
  · show laws_eqRowsS_l0_r a a _ _ _ _ = _
    unfold laws_eqRowsS_l0_r
    rw [nI_ge, cond_false]

theorem markRowsS_eq (a : qX) (k : Int) (h : msr (.slice (.slice (.slice (.pair (.int .i64) (.pair (.int .i64) .str))))) a ≤ 1048576) (h0 : 1 ≤ k) (hk : k + (wgt (.slice (.slice (.slice (.pair (.int .i64) (.pair (.int .i64) .str))))) a : Int) ≤ 4294967296) (K : Int → qX → Res) : laws_markRowsS a k K = K (k + (wgt (.slice (.slice (.slice (.pair (.int .i64) (.pair (.int .i64) .str))))) a : Int)) (mkL (wgt (.slice (.slice (.pair (.int .i64) (.pair (.int .i64) .str))))) (mk (.slice (.slice (.pair (.int .i64) (.pair (.int .i64) .str))))) a k) := by
  have hl : a.length ≤ 1048576 := msr_len h
  have hwg : wgt (.slice (.slice (.slice (.pair (.int .i64) (.pair (.int .i64) .str))))) a = (a.map (wgt (.slice (.slice (.pair (.int .i64) (.pair (.int .i64) .str)))))).sum := rfl
  rw [hwg] at hk ⊢
  unfold laws_markRowsS laws_markRowsS_l0
  have := mark_loop (wgt (.slice (.slice (.pair (.int .i64) (.pair (.int .i64) .str))))) (mk (.slice (.slice (.pair (.int .i64) (.pair (.int .i64) .str))))) a k (fun l k i => (l, k, i)) (step := laws_markRowsS_l0_s) (fun l k => K k l) (fun l k => K k l) (by unfold LIM; omega) (fun l i rec hi hll hli hla => by
    have e1 := sum_take (wgt (.slice (.slice (.pair (.int .i64) (.pair (.int .i64) .str))))) a i hi
    have e2 := sum_take_le (wgt (.slice (.slice (.pair (.int .i64) (.pair (.int .i64) .str))))) a (i + 1)
    generalize hκ : k + ((((a.take i).map (wgt (.slice (.slice (.pair (.int .i64) (.pair (.int .i64) .str)))))).sum : Nat) : Int) = κ
    have hκ1 : 1 ≤ κ ∧ κ + (wgt (.slice (.slice (.pair (.int .i64) (.pair (.int .i64) .str)))) a[i] : Int) ≤ 4294967296 := by omega
    have hw : (wgt (.slice (.slice (.pair (.int .i64) (.pair (.int .i64) .str)))) a[i] : Int) = (wgt (.slice (.slice (.pair (.int .i64) (.pair (.int .i64) .str)))) a[i] : Int) := by
      have : wgt (.slice (.slice (.pair (.int .i64) (.pair (.int .i64) .str)))) a[i] = (wgt (.slice (.slice (.pair (.int .i64) (.pair (.int .i64) .str)))) a[i]) := by first | rfl | (simp only [wgt]; done) | (simp only [wgt]; omega)
      first | rfl | omega
    have hr0 : msr (.slice (.slice (.pair (.int .i64) (.pair (.int .i64) .str)))) a[i] ≤ 1048576 := by
      have q1 := msr_mem h (List.getElem_mem hi)
      have q2 : msr (.slice (.slice (.pair (.int .i64) (.pair (.int .i64) .str)))) a[i] ≤ msr (.slice (.slice (.pair (.int .i64) (.pair (.int .i64) .str)))) a[i] := by first | exact Nat.le_refl _ | (simp only [msr]; omega)
      omega
    show laws_markRowsS_l0_r _ _ _ _ _ = _
    dsimp only
    unfold laws_markRowsS_l0_r
    rw [← hll] at hi
    have hi' : i < a.length := by omega
    simp (disch := first | assumption | omega) only [show nI a.length = nI l.length by rw [hll], nI_lt, inb_nat, upd_len, cond_true, nth_upd, upd_upd, nth_nat, hla, wi64_in, markText_eq, markRowS_eq, ← hll]
    rw [upd_nat]
    congr 3 <;> first | rfl | omega | skip) (fun l k rec hll => by
    show laws_markRowsS_l0_r _ _ _ _ _ = _
    dsimp only
    unfold laws_markRowsS_l0_r
    rw [← hll, nI_ge, cond_false])
  exact this
end Go.PI.G
namespace Go.PI.G
open Go Go.PI Go.Proofs

theorem toDb_eq (a : qF × List qR) (h : msr (.pair (.slice (.pair .str (.pair (.slice (.pair .str (.pair (.int .i64) (.pair .bool (.pair .bool (.pair (.int .i64) (.pair (.int .i64) .str))))))) (.slice .str)))) (.slice (.slice (.slice (.pair (.int .i64) (.pair (.int .i64) .str)))))) a ≤ 1048576) (k : qD → Res) : laws_toDb a k = k a := by
  have h0 : msr (.slice (.pair .str (.pair (.slice (.pair .str (.pair (.int .i64) (.pair .bool (.pair .bool (.pair (.int .i64) (.pair (.int .i64) .str))))))) (.slice .str)))) a.1 ≤ 1048576 := by
    have : msr (.slice (.pair .str (.pair (.slice (.pair .str (.pair (.int .i64) (.pair .bool (.pair .bool (.pair (.int .i64) (.pair (.int .i64) .str))))))) (.slice .str)))) a.1 ≤ msr (.pair (.slice (.pair .str (.pair (.slice (.pair .str (.pair (.int .i64) (.pair .bool (.pair .bool (.pair (.int .i64) (.pair (.int .i64) .str))))))) (.slice .str)))) (.slice (.slice (.slice (.pair (.int .i64) (.pair (.int .i64) .str)))))) a := by first | exact Nat.le_refl _ | (simp only [msr]; omega)
    omega
  have h1 : msr (.slice (.slice (.slice (.pair (.int .i64) (.pair (.int .i64) .str))))) a.2 ≤ 1048576 := by
    have : msr (.slice (.slice (.slice (.pair (.int .i64) (.pair (.int .i64) .str))))) a.2 ≤ msr (.pair (.slice (.pair .str (.pair (.slice (.pair .str (.pair (.int .i64) (.pair .bool (.pair .bool (.pair (.int .i64) (.pair (.int .i64) .str))))))) (.slice .str)))) (.slice (.slice (.slice (.pair (.int .i64) (.pair (.int .i64) .str)))))) a := by first | exact Nat.le_refl _ | (simp only [msr]; omega)
    omega
  unfold laws_toDb
  simp only [toCat_eq _ h0, toRowsS_eq _ h1]

theorem szDb_eq (a : qF × List qR) (left : Int) (h0 : 0 ≤ left) (h1 : left ≤ 1048576) (hw : Wf (.pair (.slice (.pair .str (.pair (.slice (.pair .str (.pair (.int .i64) (.pair .bool (.pair .bool (.pair (.int .i64) (.pair (.int .i64) .str))))))) (.slice .str)))) (.slice (.slice (.slice (.pair (.int .i64) (.pair (.int .i64) .str)))))) a) (k : Int → Res) : laws_szDb a left k = k (szR left (msr (.pair (.slice (.pair .str (.pair (.slice (.pair .str (.pair (.int .i64) (.pair .bool (.pair .bool (.pair (.int .i64) (.pair (.int .i64) .str))))))) (.slice .str)))) (.slice (.slice (.slice (.pair (.int .i64) (.pair (.int .i64) .str)))))) a)) := by
  have hm : msr (.pair (.slice (.pair .str (.pair (.slice (.pair .str (.pair (.int .i64) (.pair .bool (.pair .bool (.pair (.int .i64) (.pair (.int .i64) .str))))))) (.slice .str)))) (.slice (.slice (.slice (.pair (.int .i64) (.pair (.int .i64) .str)))))) a = msr (.slice (.pair .str (.pair (.slice (.pair .str (.pair (.int .i64) (.pair .bool (.pair .bool (.pair (.int .i64) (.pair (.int .i64) .str))))))) (.slice .str)))) a.1 + (msr (.slice (.slice (.slice (.pair (.int .i64) (.pair (.int .i64) .str))))) a.2 + 0) := by simp only [msr]; omega
  rw [hm]
  unfold laws_szDb
  rw [szCat_eq _ _ (by omega) (by omega) hw.1]
  by_cases hb0 : ((msr (.slice (.pair .str (.pair (.slice (.pair .str (.pair (.int .i64) (.pair .bool (.pair .bool (.pair (.int .i64) (.pair (.int .i64) .str))))))) (.slice .str)))) a.1 : Nat) : Int) ≤ left
  rotate_left
  · rw [szR_neg hb0, szR_stop hb0, dec_lt_t (by omega), cond_true]
  rw [szR_pos hb0, szR_step hb0, dec_lt_f (by omega), cond_false]
  rw [szRowsS_eq _ _ (by omega) (by omega) hw.2]
  by_cases hb1 : ((msr (.slice (.slice (.slice (.pair (.int .i64) (.pair (.int .i64) .str))))) a.2 : Nat) : Int) ≤ left - (msr (.slice (.pair .str (.pair (.slice (.pair .str (.pair (.int .i64) (.pair .bool (.pair .bool (.pair (.int .i64) (.pair (.int .i64) .str))))))) (.slice .str)))) a.1 : Nat)
  rotate_left
  · rw [szR_neg hb1, szR_stop hb1, dec_lt_t (by omega), cond_true]
  rw [szR_pos hb1, szR_step hb1, dec_lt_f (by omega), cond_false]
  exact sz_end (by omega)

theorem eqDb_eq (a : qF × List qR) (h : msr (.pair (.slice (.pair .str (.pair (.slice (.pair .str (.pair (.int .i64) (.pair .bool (.pair .bool (.pair (.int .i64) (.pair (.int .i64) .str))))))) (.slice .str)))) (.slice (.slice (.slice (.pair (.int .i64) (.pair (.int .i64) .str)))))) a ≤ 1048576) (k : Bool → Res) : laws_eqDb a a k = k true := by
  have h0 : msr (.slice (.pair .str (.pair (.slice (.pair .str (.pair (.int .i64) (.pair .bool (.pair .bool (.pair (.int .i64) (.pair (.int .i64) .str))))))) (.slice .str)))) a.1 ≤ 1048576 := by
    have : msr (.slice (.pair .str (.pair (.slice (.pair .str (.pair (.int .i64) (.pair .bool (.pair .bool (.pair (.int .i64) (.pair (.int .i64) .str))))))) (.slice .str)))) a.1 ≤ msr (.pair (.slice (.pair .str (.pair (.slice (.pair .str (.pair (.int .i64) (.pair .bool (.pair .bool (.pair (.int .i64) (.pair (.int .i64) .str))))))) (.slice .str)))) (.slice (.slice (.slice (.pair (.int .i64) (.pair (.int .i64) .str)))))) a := by first | exact Nat.le_refl _ | (simp only [msr]; omega)
    omega
  have h1 : msr (.slice (.slice (.slice (.pair (.int .i64) (.pair (.int .i64) .str))))) a.2 ≤ 1048576 := by
    have : msr (.slice (.slice (.slice (.pair (.int .i64) (.pair (.int .i64) .str))))) a.2 ≤ msr (.pair (.slice (.pair .str (.pair (.slice (.pair .str (.pair (.int .i64) (.pair .bool (.pair .bool (.pair (.int .i64) (.pair (.int .i64) .str))))))) (.slice .str)))) (.slice (.slice (.slice (.pair (.int .i64) (.pair (.int .i64) .str)))))) a := by first | exact Nat.le_refl _ | (simp only [msr]; omega)
    omega
  unfold laws_eqDb
  simp only [bne_f, sNe_self, beq_self_eq_true, cond_false, Bool.not_true, eqCat_eq _ h0, eqRowsS_eq _ h1]

theorem markDb_eq (a : qF × List qR) (k : Int) (h : msr (.pair (.slice (.pair .str (.pair (.slice (.pair .str (.pair (.int .i64) (.pair .bool (.pair .bool (.pair (.int .i64) (.pair (.int .i64) .str))))))) (.slice .str)))) (.slice (.slice (.slice (.pair (.int .i64) (.pair (.int .i64) .str)))))) a ≤ 1048576) (h0 : 1 ≤ k) (hk : k + (wgtT (.pair (.slice (.pair .str (.pair (.slice (.pair .str (.pair (.int .i64) (.pair .bool (.pair .bool (.pair (.int .i64) (.pair (.int .i64) .str))))))) (.slice .str)))) (.slice (.slice (.slice (.pair (.int .i64) (.pair (.int .i64) .str)))))) a : Int) ≤ 4294967296) (K : Int → qD → Res) : laws_markDb a k K = K (k + (wgtT (.pair (.slice (.pair .str (.pair (.slice (.pair .str (.pair (.int .i64) (.pair .bool (.pair .bool (.pair (.int .i64) (.pair (.int .i64) .str))))))) (.slice .str)))) (.slice (.slice (.slice (.pair (.int .i64) (.pair (.int .i64) .str)))))) a : Int)) (mkT (.pair (.slice (.pair .str (.pair (.slice (.pair .str (.pair (.int .i64) (.pair .bool (.pair .bool (.pair (.int .i64) (.pair (.int .i64) .str))))))) (.slice .str)))) (.slice (.slice (.slice (.pair (.int .i64) (.pair (.int .i64) .str)))))) a k) := by
  have h0 : msr (.slice (.pair .str (.pair (.slice (.pair .str (.pair (.int .i64) (.pair .bool (.pair .bool (.pair (.int .i64) (.pair (.int .i64) .str))))))) (.slice .str)))) a.1 ≤ 1048576 := by
    have : msr (.slice (.pair .str (.pair (.slice (.pair .str (.pair (.int .i64) (.pair .bool (.pair .bool (.pair (.int .i64) (.pair (.int .i64) .str))))))) (.slice .str)))) a.1 ≤ msr (.pair (.slice (.pair .str (.pair (.slice (.pair .str (.pair (.int .i64) (.pair .bool (.pair .bool (.pair (.int .i64) (.pair (.int .i64) .str))))))) (.slice .str)))) (.slice (.slice (.slice (.pair (.int .i64) (.pair (.int .i64) .str)))))) a := by first | exact Nat.le_refl _ | (simp only [msr]; omega)
    omega
  have h1 : msr (.slice (.slice (.slice (.pair (.int .i64) (.pair (.int .i64) .str))))) a.2 ≤ 1048576 := by
    have : msr (.slice (.slice (.slice (.pair (.int .i64) (.pair (.int .i64) .str))))) a.2 ≤ msr (.pair (.slice (.pair .str (.pair (.slice (.pair .str (.pair (.int .i64) (.pair .bool (.pair .bool (.pair (.int .i64) (.pair (.int .i64) .str))))))) (.slice .str)))) (.slice (.slice (.slice (.pair (.int .i64) (.pair (.int .i64) .str)))))) a := by first | exact Nat.le_refl _ | (simp only [msr]; omega)
    omega
  have g0 : msr (.slice (.pair .str (.pair (.slice (.pair .str (.pair (.int .i64) (.pair .bool (.pair .bool (.pair (.int .i64) (.pair (.int .i64) .str))))))) (.slice .str)))) a.1 ≤ 1048576 := by
    have : msr (.slice (.pair .str (.pair (.slice (.pair .str (.pair (.int .i64) (.pair .bool (.pair .bool (.pair (.int .i64) (.pair (.int .i64) .str))))))) (.slice .str)))) a.1 ≤ msr (.pair (.slice (.pair .str (.pair (.slice (.pair .str (.pair (.int .i64) (.pair .bool (.pair .bool (.pair (.int .i64) (.pair (.int .i64) .str))))))) (.slice .str)))) (.slice (.slice (.slice (.pair (.int .i64) (.pair (.int .i64) .str)))))) a := by first | exact Nat.le_refl _ | (simp only [msr]; omega)
    omega
  have g1 : msr (.slice (.slice (.slice (.pair (.int .i64) (.pair (.int .i64) .str))))) a.2 ≤ 1048576 := by
    have : msr (.slice (.slice (.slice (.pair (.int .i64) (.pair (.int .i64) .str))))) a.2 ≤ msr (.pair (.slice (.pair .str (.pair (.slice (.pair .str (.pair (.int .i64) (.pair .bool (.pair .bool (.pair (.int .i64) (.pair (.int .i64) .str))))))) (.slice .str)))) (.slice (.slice (.slice (.pair (.int .i64) (.pair (.int .i64) .str)))))) a := by first | exact Nat.le_refl _ | (simp only [msr]; omega)
    omega
  have hw : wgtT (.pair (.slice (.pair .str (.pair (.slice (.pair .str (.pair (.int .i64) (.pair .bool (.pair .bool (.pair (.int .i64) (.pair (.int .i64) .str))))))) (.slice .str)))) (.slice (.slice (.slice (.pair (.int .i64) (.pair (.int .i64) .str)))))) a = wgt (.slice (.pair .str (.pair (.slice (.pair .str (.pair (.int .i64) (.pair .bool (.pair .bool (.pair (.int .i64) (.pair (.int .i64) .str))))))) (.slice .str)))) a.1 + wgt (.slice (.slice (.slice (.pair (.int .i64) (.pair (.int .i64) .str))))) a.2 := by first | rfl | (simp only [wgtT_pair, wgtT_slice, wgtT_int, wgtT_bool, wgtT_str, Nat.zero_add, Nat.add_zero]; done) | (simp only [wgtT_pair, wgtT_slice, wgtT_int, wgtT_bool, wgtT_str, Nat.zero_add, Nat.add_zero]; omega)
  have w0 : wgtT (.slice (.pair .str (.pair (.slice (.pair .str (.pair (.int .i64) (.pair .bool (.pair .bool (.pair (.int .i64) (.pair (.int .i64) .str))))))) (.slice .str)))) a.1 = wgt (.slice (.pair .str (.pair (.slice (.pair .str (.pair (.int .i64) (.pair .bool (.pair .bool (.pair (.int .i64) (.pair (.int .i64) .str))))))) (.slice .str)))) a.1 := by first | rfl | (simp only [wgtT, wgt]; omega)
  have w1 : wgtT (.slice (.slice (.slice (.pair (.int .i64) (.pair (.int .i64) .str))))) a.2 = wgt (.slice (.slice (.slice (.pair (.int .i64) (.pair (.int .i64) .str))))) a.2 := by first | rfl | (simp only [wgtT, wgt]; omega)
  unfold laws_markDb
  simp (disch := first | assumption | omega) only [markCat_eq, markRowsS_eq]
  first | rfl | (simp only [mkT_pair (.slice (.pair .str (.pair (.slice (.pair .str (.pair (.int .i64) (.pair .bool (.pair .bool (.pair (.int .i64) (.pair (.int .i64) .str))))))) (.slice .str)))) (.slice (.slice (.slice (.pair (.int .i64) (.pair (.int .i64) .str))))), wgtT_pair (.slice (.pair .str (.pair (.slice (.pair .str (.pair (.int .i64) (.pair .bool (.pair .bool (.pair (.int .i64) (.pair (.int .i64) .str))))))) (.slice .str)))) (.slice (.slice (.slice (.pair (.int .i64) (.pair (.int .i64) .str))))), mkT_slice, mkT_int, mkT_bool, mkT_str, wgtT_slice, wgtT_int, wgtT_bool, wgtT_str, Int.natCast_add, Int.natCast_zero, Int.cast_ofNat_Int, Nat.zero_add, Nat.add_zero, Int.add_zero, ← Int.add_assoc]; done) | (simp only [mkT_pair (.slice (.pair .str (.pair (.slice (.pair .str (.pair (.int .i64) (.pair .bool (.pair .bool (.pair (.int .i64) (.pair (.int .i64) .str))))))) (.slice .str)))) (.slice (.slice (.slice (.pair (.int .i64) (.pair (.int .i64) .str))))), wgtT_pair (.slice (.pair .str (.pair (.slice (.pair .str (.pair (.int .i64) (.pair .bool (.pair .bool (.pair (.int .i64) (.pair (.int .i64) .str))))))) (.slice .str)))) (.slice (.slice (.slice (.pair (.int .i64) (.pair (.int .i64) .str))))), mkT_slice, mkT_int, mkT_bool, mkT_str, wgtT_slice, wgtT_int, wgtT_bool, wgtT_str, Int.natCast_add, Int.natCast_zero, Int.cast_ofNat_Int, Nat.zero_add, Nat.add_zero, Int.add_zero, ← Int.add_assoc]; rfl)
end Go.PI.G
namespace Go.PI.G
open Go Go.PI Go.Proofs

theorem eqDdl_eq (a : Int × ByteArray × qE × List ByteArray × ByteArray × ByteArray) (h : msr (.pair (.int .i64) (.pair .str (.pair (.slice (.pair .str (.pair (.int .i64) (.pair .bool (.pair .bool (.pair (.int .i64) (.pair (.int .i64) .str))))))) (.pair (.slice .str) (.pair .str .str))))) a ≤ 1048576) (k : Bool → Res) : laws_eqDdl a a k = k true := by
  have h2 : msr (.slice (.pair .str (.pair (.int .i64) (.pair .bool (.pair .bool (.pair (.int .i64) (.pair (.int .i64) .str))))))) a.2.2.1 ≤ 1048576 := by
    have : msr (.slice (.pair .str (.pair (.int .i64) (.pair .bool (.pair .bool (.pair (.int .i64) (.pair (.int .i64) .str))))))) a.2.2.1 ≤ msr (.pair (.int .i64) (.pair .str (.pair (.slice (.pair .str (.pair (.int .i64) (.pair .bool (.pair .bool (.pair (.int .i64) (.pair (.int .i64) .str))))))) (.pair (.slice .str) (.pair .str .str))))) a := by first | exact Nat.le_refl _ | (simp only [msr]; omega)
    omega
  have h3 : msr (.slice .str) a.2.2.2.1 ≤ 1048576 := by
    have : msr (.slice .str) a.2.2.2.1 ≤ msr (.pair (.int .i64) (.pair .str (.pair (.slice (.pair .str (.pair (.int .i64) (.pair .bool (.pair .bool (.pair (.int .i64) (.pair (.int .i64) .str))))))) (.pair (.slice .str) (.pair .str .str))))) a := by first | exact Nat.le_refl _ | (simp only [msr]; omega)
    omega
  unfold laws_eqDdl
  simp only [bne_f, sNe_self, beq_self_eq_true, cond_false, Bool.not_true, eqColS_eq _ h2, eqStringS_eq _ h3]
end Go.PI.G
namespace Go.PI.G
open Go Go.PI Go.Proofs

theorem eqStmt_eq (a : Int × ByteArray × qW × qW × Int × ByteArray × qE × List ByteArray × ByteArray × ByteArray) (h : msr (.pair (.int .i64) (.pair .str (.pair (.slice (.pair (.int .i64) (.pair (.int .i64) .str))) (.pair (.slice (.pair (.int .i64) (.pair (.int .i64) .str))) (.pair (.int .i64) (.pair .str (.pair (.slice (.pair .str (.pair (.int .i64) (.pair .bool (.pair .bool (.pair (.int .i64) (.pair (.int .i64) .str))))))) (.pair (.slice .str) (.pair .str .str))))))))) a ≤ 1048576) (k : Bool → Res) : laws_eqStmt a a k = k true := by
  have h2 : msr (.slice (.pair (.int .i64) (.pair (.int .i64) .str))) a.2.2.1 ≤ 1048576 := by
    have : msr (.slice (.pair (.int .i64) (.pair (.int .i64) .str))) a.2.2.1 ≤ msr (.pair (.int .i64) (.pair .str (.pair (.slice (.pair (.int .i64) (.pair (.int .i64) .str))) (.pair (.slice (.pair (.int .i64) (.pair (.int .i64) .str))) (.pair (.int .i64) (.pair .str (.pair (.slice (.pair .str (.pair (.int .i64) (.pair .bool (.pair .bool (.pair (.int .i64) (.pair (.int .i64) .str))))))) (.pair (.slice .str) (.pair .str .str))))))))) a := by first | exact Nat.le_refl _ | (simp only [msr]; omega)
    omega
  have h3 : msr (.slice (.pair (.int .i64) (.pair (.int .i64) .str))) a.2.2.2.1 ≤ 1048576 := by
    have : msr (.slice (.pair (.int .i64) (.pair (.int .i64) .str))) a.2.2.2.1 ≤ msr (.pair (.int .i64) (.pair .str (.pair (.slice (.pair (.int .i64) (.pair (.int .i64) .str))) (.pair (.slice (.pair (.int .i64) (.pair (.int .i64) .str))) (.pair (.int .i64) (.pair .str (.pair (.slice (.pair .str (.pair (.int .i64) (.pair .bool (.pair .bool (.pair (.int .i64) (.pair (.int .i64) .str))))))) (.pair (.slice .str) (.pair .str .str))))))))) a := by first | exact Nat.le_refl _ | (simp only [msr]; omega)
    omega
  have h4 : msr (.pair (.int .i64) (.pair .str (.pair (.slice (.pair .str (.pair (.int .i64) (.pair .bool (.pair .bool (.pair (.int .i64) (.pair (.int .i64) .str))))))) (.pair (.slice .str) (.pair .str .str))))) a.2.2.2.2 ≤ 1048576 := by
    have : msr (.pair (.int .i64) (.pair .str (.pair (.slice (.pair .str (.pair (.int .i64) (.pair .bool (.pair .bool (.pair (.int .i64) (.pair (.int .i64) .str))))))) (.pair (.slice .str) (.pair .str .str))))) a.2.2.2.2 ≤ msr (.pair (.int .i64) (.pair .str (.pair (.slice (.pair (.int .i64) (.pair (.int .i64) .str))) (.pair (.slice (.pair (.int .i64) (.pair (.int .i64) .str))) (.pair (.int .i64) (.pair .str (.pair (.slice (.pair .str (.pair (.int .i64) (.pair .bool (.pair .bool (.pair (.int .i64) (.pair (.int .i64) .str))))))) (.pair (.slice .str) (.pair .str .str))))))))) a := by first | exact Nat.le_refl _ | (simp only [msr]; omega)
    omega
  unfold laws_eqStmt
  simp only [bne_f, sNe_self, beq_self_eq_true, cond_false, Bool.not_true, eqValS_eq _ h2, eqRow_eq _ h3, eqDdl_eq _ h4]
end Go.PI.G
namespace Go.PI.G
open Go Go.PI Go.Proofs

theorem eqStmtS_eq (a : qU) (h : msr (.slice (.pair (.int .i64) (.pair .str (.pair (.slice (.pair (.int .i64) (.pair (.int .i64) .str))) (.pair (.slice (.pair (.int .i64) (.pair (.int .i64) .str))) (.pair (.int .i64) (.pair .str (.pair (.slice (.pair .str (.pair (.int .i64) (.pair .bool (.pair .bool (.pair (.int .i64) (.pair (.int .i64) .str))))))) (.pair (.slice .str) (.pair .str .str)))))))))) a ≤ 1048576) (k : Bool → Res) : laws_eqStmtS a a k = k true := by
  have hl : a.length ≤ 1048576 := msr_len h
  unfold laws_eqStmtS
  rw [bne_f, cond_false]
  unfold laws_eqStmtS_l0
  rw [eq_loop a _ (by unfold LIM; omega) (fun i rec hi => ?_) (fun rec => ?_)]
  · show laws_eqStmtS_l0_r a a _ _ _ _ = _
    unfold laws_eqStmtS_l0_r
    simp only [nI_lt hi, cond_true, inb_nat hi, nth_nat _ _ _ hi, wi64_in (n := (i : Int) + 1) (by omega), bne_f, sNe_self, cond_false, Bool.not_true, eqStmt_eq _ (msr_mem h (List.getElem_mem hi))]
  · show laws_eqStmtS_l0_r a a _ _ _ _ = _
    unfold laws_eqStmtS_l0_r
    rw [nI_ge, cond_false]

theorem markStmtS_eq (a : qU) (k : Int) (h : msr (.slice (.pair (.int .i64) (.pair .str (.pair (.slice (.pair (.int .i64) (.pair (.int .i64) .str))) (.pair (.slice (.pair (.int .i64) (.pair (.int .i64) .str))) (.pair (.int .i64) (.pair .str (.pair (.slice (.pair .str (.pair (.int .i64) (.pair .bool (.pair .bool (.pair (.int .i64) (.pair (.int .i64) .str))))))) (.pair (.slice .str) (.pair .str .str)))))))))) a ≤ 1048576) (h0 : 1 ≤ k) (hk : k + (wgt (.slice (.pair (.int .i64) (.pair .str (.pair (.slice (.pair (.int .i64) (.pair (.int .i64) .str))) (.pair (.slice (.pair (.int .i64) (.pair (.int .i64) .str))) (.pair (.int .i64) (.pair .str (.pair (.slice (.pair .str (.pair (.int .i64) (.pair .bool (.pair .bool (.pair (.int .i64) (.pair (.int .i64) .str))))))) (.pair (.slice .str) (.pair .str .str)))))))))) a : Int) ≤ 4294967296) (K : Int → qU → Res) : laws_markStmtS a k K = K (k + (wgt (.slice (.pair (.int .i64) (.pair .str (.pair (.slice (.pair (.int .i64) (.pair (.int .i64) .str))) (.pair (.slice (.pair (.int .i64) (.pair (.int .i64) .str))) (.pair (.int .i64) (.pair .str (.pair (.slice (.pair .str (.pair (.int .i64) (.pair .bool (.pair .bool (.pair (.int .i64) (.pair (.int .i64) .str))))))) (.pair (.slice .str) (.pair .str .str)))))))))) a : Int)) (mkL (wgt (.pair (.int .i64) (.pair .str (.pair (.slice (.pair (.int .i64) (.pair (.int .i64) .str))) (.pair (.slice (.pair (.int .i64) (.pair (.int .i64) .str))) (.pair (.int .i64) (.pair .str (.pair (.slice (.pair .str (.pair (.int .i64) (.pair .bool (.pair .bool (.pair (.int .i64) (.pair (.int .i64) .str))))))) (.pair (.slice .str) (.pair .str .str)))))))))) (mk (.pair (.int .i64) (.pair .str (.pair (.slice (.pair (.int .i64) (.pair (.int .i64) .str))) (.pair (.slice (.pair (.int .i64) (.pair (.int .i64) .str))) (.pair (.int .i64) (.pair .str (.pair (.slice (.pair .str (.pair (.int .i64) (.pair .bool (.pair .bool (.pair (.int .i64) (.pair (.int .i64) .str))))))) (.pair (.slice .str) (.pair .str .str)))))))))) a k) := by
  have hl : a.length ≤ 1048576 := msr_len h
  have hwg : wgt (.slice (.pair (.int .i64) (.pair .str (.pair (.slice (.pair (.int .i64) (.pair (.int .i64) .str))) (.pair (.slice (.pair (.int .i64) (.pair (.int .i64) .str))) (.pair (.int .i64) (.pair .str (.pair (.slice (.pair .str (.pair (.int .i64) (.pair .bool (.pair .bool (.pair (.int .i64) (.pair (.int .i64) .str))))))) (.pair (.slice .str) (.pair .str .str)))))))))) a = (a.map (wgt (.pair (.int .i64) (.pair .str (.pair (.slice (.pair (.int .i64) (.pair (.int .i64) .str))) (.pair (.slice (.pair (.int .i64) (.pair (.int .i64) .str))) (.pair (.int .i64) (.pair .str (.pair (.slice (.pair .str (.pair (.int .i64) (.pair .bool (.pair .bool (.pair (.int .i64) (.pair (.int .i64) .str))))))) (.pair (.slice .str) (.pair .str .str))))))))))).sum := rfl
  rw [hwg] at hk ⊢
  unfold laws_markStmtS laws_markStmtS_l4
  have := mark_loop (wgt (.pair (.int .i64) (.pair .str (.pair (.slice (.pair (.int .i64) (.pair (.int .i64) .str))) (.pair (.slice (.pair (.int .i64) (.pair (.int .i64) .str))) (.pair (.int .i64) (.pair .str (.pair (.slice (.pair .str (.pair (.int .i64) (.pair .bool (.pair .bool (.pair (.int .i64) (.pair (.int .i64) .str))))))) (.pair (.slice .str) (.pair .str .str)))))))))) (mk (.pair (.int .i64) (.pair .str (.pair (.slice (.pair (.int .i64) (.pair (.int .i64) .str))) (.pair (.slice (.pair (.int .i64) (.pair (.int .i64) .str))) (.pair (.int .i64) (.pair .str (.pair (.slice (.pair .str (.pair (.int .i64) (.pair .bool (.pair .bool (.pair (.int .i64) (.pair (.int .i64) .str))))))) (.pair (.slice .str) (.pair .str .str)))))))))) a k (fun l k i => (l, k, i)) (step := laws_markStmtS_l4_s) (fun l k => K k l) (fun l k => K k l) (by unfold LIM; omega) (fun l i rec hi hll hli hla => by
    have e1 := sum_take (wgt (.pair (.int .i64) (.pair .str (.pair (.slice (.pair (.int .i64) (.pair (.int .i64) .str))) (.pair (.slice (.pair (.int .i64) (.pair (.int .i64) .str))) (.pair (.int .i64) (.pair .str (.pair (.slice (.pair .str (.pair (.int .i64) (.pair .bool (.pair .bool (.pair (.int .i64) (.pair (.int .i64) .str))))))) (.pair (.slice .str) (.pair .str .str)))))))))) a i hi
    have e2 := sum_take_le (wgt (.pair (.int .i64) (.pair .str (.pair (.slice (.pair (.int .i64) (.pair (.int .i64) .str))) (.pair (.slice (.pair (.int .i64) (.pair (.int .i64) .str))) (.pair (.int .i64) (.pair .str (.pair (.slice (.pair .str (.pair (.int .i64) (.pair .bool (.pair .bool (.pair (.int .i64) (.pair (.int .i64) .str))))))) (.pair (.slice .str) (.pair .str .str)))))))))) a (i + 1)
    generalize hκ : k + ((((a.take i).map (wgt (.pair (.int .i64) (.pair .str (.pair (.slice (.pair (.int .i64) (.pair (.int .i64) .str))) (.pair (.slice (.pair (.int .i64) (.pair (.int .i64) .str))) (.pair (.int .i64) (.pair .str (.pair (.slice (.pair .str (.pair (.int .i64) (.pair .bool (.pair .bool (.pair (.int .i64) (.pair (.int .i64) .str))))))) (.pair (.slice .str) (.pair .str .str))))))))))).sum : Nat) : Int) = κ
    have hκ1 : 1 ≤ κ ∧ κ + (wgt (.pair (.int .i64) (.pair .str (.pair (.slice (.pair (.int .i64) (.pair (.int .i64) .str))) (.pair (.slice (.pair (.int .i64) (.pair (.int .i64) .str))) (.pair (.int .i64) (.pair .str (.pair (.slice (.pair .str (.pair (.int .i64) (.pair .bool (.pair .bool (.pair (.int .i64) (.pair (.int .i64) .str))))))) (.pair (.slice .str) (.pair .str .str))))))))) a[i] : Int) ≤ 4294967296 := by omega
    have hw : (wgt (.pair (.int .i64) (.pair .str (.pair (.slice (.pair (.int .i64) (.pair (.int .i64) .str))) (.pair (.slice (.pair (.int .i64) (.pair (.int .i64) .str))) (.pair (.int .i64) (.pair .str (.pair (.slice (.pair .str (.pair (.int .i64) (.pair .bool (.pair .bool (.pair (.int .i64) (.pair (.int .i64) .str))))))) (.pair (.slice .str) (.pair .str .str))))))))) a[i] : Int) = 1 + 1 + (wgt (.slice (.pair (.int .i64) (.pair (.int .i64) .str))) a[i].2.2.1 : Int) + (wgt (.slice (.pair (.int .i64) (.pair (.int .i64) .str))) a[i].2.2.2.1 : Int) + 1 + 1 + (wgt (.slice (.pair .str (.pair (.int .i64) (.pair .bool (.pair .bool (.pair (.int .i64) (.pair (.int .i64) .str))))))) a[i].2.2.2.2.2.2.1 : Int) + (wgt (.slice .str) a[i].2.2.2.2.2.2.2.1 : Int) + 1 + 1 := by
      have : wgt (.pair (.int .i64) (.pair .str (.pair (.slice (.pair (.int .i64) (.pair (.int .i64) .str))) (.pair (.slice (.pair (.int .i64) (.pair (.int .i64) .str))) (.pair (.int .i64) (.pair .str (.pair (.slice (.pair .str (.pair (.int .i64) (.pair .bool (.pair .bool (.pair (.int .i64) (.pair (.int .i64) .str))))))) (.pair (.slice .str) (.pair .str .str))))))))) a[i] = 1 + 1 + (wgt (.slice (.pair (.int .i64) (.pair (.int .i64) .str))) a[i].2.2.1) + (wgt (.slice (.pair (.int .i64) (.pair (.int .i64) .str))) a[i].2.2.2.1) + 1 + 1 + (wgt (.slice (.pair .str (.pair (.int .i64) (.pair .bool (.pair .bool (.pair (.int .i64) (.pair (.int .i64) .str))))))) a[i].2.2.2.2.2.2.1) + (wgt (.slice .str) a[i].2.2.2.2.2.2.2.1) + 1 + 1 := by first | rfl | (simp only [wgt]; done) | (simp only [wgt]; omega)
      first | rfl | omega
    have hr0 : msr (.slice (.pair (.int .i64) (.pair (.int .i64) .str))) a[i].2.2.1 ≤ 1048576 := by
      have q1 := msr_mem h (List.getElem_mem hi)
      have q2 : msr (.slice (.pair (.int .i64) (.pair (.int .i64) .str))) a[i].2.2.1 ≤ msr (.pair (.int .i64) (.pair .str (.pair (.slice (.pair (.int .i64) (.pair (.int .i64) .str))) (.pair (.slice (.pair (.int .i64) (.pair (.int .i64) .str))) (.pair (.int .i64) (.pair .str (.pair (.slice (.pair .str (.pair (.int .i64) (.pair .bool (.pair .bool (.pair (.int .i64) (.pair (.int .i64) .str))))))) (.pair (.slice .str) (.pair .str .str))))))))) a[i] := by first | exact Nat.le_refl _ | (simp only [msr]; omega)
      omega
    have hr1 : msr (.slice (.pair (.int .i64) (.pair (.int .i64) .str))) a[i].2.2.2.1 ≤ 1048576 := by
      have q1 := msr_mem h (List.getElem_mem hi)
      have q2 : msr (.slice (.pair (.int .i64) (.pair (.int .i64) .str))) a[i].2.2.2.1 ≤ msr (.pair (.int .i64) (.pair .str (.pair (.slice (.pair (.int .i64) (.pair (.int .i64) .str))) (.pair (.slice (.pair (.int .i64) (.pair (.int .i64) .str))) (.pair (.int .i64) (.pair .str (.pair (.slice (.pair .str (.pair (.int .i64) (.pair .bool (.pair .bool (.pair (.int .i64) (.pair (.int .i64) .str))))))) (.pair (.slice .str) (.pair .str .str))))))))) a[i] := by first | exact Nat.le_refl _ | (simp only [msr]; omega)
      omega
    have hr2 : msr (.slice (.pair .str (.pair (.int .i64) (.pair .bool (.pair .bool (.pair (.int .i64) (.pair (.int .i64) .str))))))) a[i].2.2.2.2.2.2.1 ≤ 1048576 := by
      have q1 := msr_mem h (List.getElem_mem hi)
      have q2 : msr (.slice (.pair .str (.pair (.int .i64) (.pair .bool (.pair .bool (.pair (.int .i64) (.pair (.int .i64) .str))))))) a[i].2.2.2.2.2.2.1 ≤ msr (.pair (.int .i64) (.pair .str (.pair (.slice (.pair (.int .i64) (.pair (.int .i64) .str))) (.pair (.slice (.pair (.int .i64) (.pair (.int .i64) .str))) (.pair (.int .i64) (.pair .str (.pair (.slice (.pair .str (.pair (.int .i64) (.pair .bool (.pair .bool (.pair (.int .i64) (.pair (.int .i64) .str))))))) (.pair (.slice .str) (.pair .str .str))))))))) a[i] := by first | exact Nat.le_refl _ | (simp only [msr]; omega)
      omega
    have hr3 : msr (.slice .str) a[i].2.2.2.2.2.2.2.1 ≤ 1048576 := by
      have q1 := msr_mem h (List.getElem_mem hi)
      have q2 : msr (.slice .str) a[i].2.2.2.2.2.2.2.1 ≤ msr (.pair (.int .i64) (.pair .str (.pair (.slice (.pair (.int .i64) (.pair (.int .i64) .str))) (.pair (.slice (.pair (.int .i64) (.pair (.int .i64) .str))) (.pair (.int .i64) (.pair .str (.pair (.slice (.pair .str (.pair (.int .i64) (.pair .bool (.pair .bool (.pair (.int .i64) (.pair (.int .i64) .str))))))) (.pair (.slice .str) (.pair .str .str))))))))) a[i] := by first | exact Nat.le_refl _ | (simp only [msr]; omega)
      omega
    show laws_markStmtS_l4_r _ _ _ _ _ = _
    dsimp only
    unfold laws_markStmtS_l4_r laws_markStmtS_p0 laws_markStmtS_p1 laws_markStmtS_p2 laws_markStmtS_p3
    rw [← hll] at hi
    have hi' : i < a.length := by omega
    simp (disch := first | assumption | omega) only [show nI a.length = nI l.length by rw [hll], nI_lt, inb_nat, upd_len, cond_true, nth_upd, upd_upd, nth_nat, hla, wi64_in, markText_eq, markColS_eq, markStringS_eq, markValS_eq, ← hll]
    rw [upd_nat]
    congr 3 <;> first | rfl | omega | skip) (fun l k rec hll => by
    show laws_markStmtS_l4_r _ _ _ _ _ = _
    dsimp only
    unfold laws_markStmtS_l4_r laws_markStmtS_p0 laws_markStmtS_p1 laws_markStmtS_p2 laws_markStmtS_p3
    rw [← hll, nI_ge, cond_false])
  exact this

theorem heldStmtS_eq (a : qU) (k : Int) (h : msr (.slice (.pair (.int .i64) (.pair .str (.pair (.slice (.pair (.int .i64) (.pair (.int .i64) .str))) (.pair (.slice (.pair (.int .i64) (.pair (.int .i64) .str))) (.pair (.int .i64) (.pair .str (.pair (.slice (.pair .str (.pair (.int .i64) (.pair .bool (.pair .bool (.pair (.int .i64) (.pair (.int .i64) .str))))))) (.pair (.slice .str) (.pair .str .str)))))))))) a ≤ 1048576) (h0 : 1 ≤ k) (hk : k + (wgt (.slice (.pair (.int .i64) (.pair .str (.pair (.slice (.pair (.int .i64) (.pair (.int .i64) .str))) (.pair (.slice (.pair (.int .i64) (.pair (.int .i64) .str))) (.pair (.int .i64) (.pair .str (.pair (.slice (.pair .str (.pair (.int .i64) (.pair .bool (.pair .bool (.pair (.int .i64) (.pair (.int .i64) .str))))))) (.pair (.slice .str) (.pair .str .str)))))))))) a : Int) ≤ 4294967296) (K : Int → Res) : laws_heldStmtS (mkL (wgt (.pair (.int .i64) (.pair .str (.pair (.slice (.pair (.int .i64) (.pair (.int .i64) .str))) (.pair (.slice (.pair (.int .i64) (.pair (.int .i64) .str))) (.pair (.int .i64) (.pair .str (.pair (.slice (.pair .str (.pair (.int .i64) (.pair .bool (.pair .bool (.pair (.int .i64) (.pair (.int .i64) .str))))))) (.pair (.slice .str) (.pair .str .str)))))))))) (mk (.pair (.int .i64) (.pair .str (.pair (.slice (.pair (.int .i64) (.pair (.int .i64) .str))) (.pair (.slice (.pair (.int .i64) (.pair (.int .i64) .str))) (.pair (.int .i64) (.pair .str (.pair (.slice (.pair .str (.pair (.int .i64) (.pair .bool (.pair .bool (.pair (.int .i64) (.pair (.int .i64) .str))))))) (.pair (.slice .str) (.pair .str .str)))))))))) a k) k K = K (k + (wgt (.slice (.pair (.int .i64) (.pair .str (.pair (.slice (.pair (.int .i64) (.pair (.int .i64) .str))) (.pair (.slice (.pair (.int .i64) (.pair (.int .i64) .str))) (.pair (.int .i64) (.pair .str (.pair (.slice (.pair .str (.pair (.int .i64) (.pair .bool (.pair .bool (.pair (.int .i64) (.pair (.int .i64) .str))))))) (.pair (.slice .str) (.pair .str .str)))))))))) a : Int)) := by
  have hl : a.length ≤ 1048576 := msr_len h
  have hwg : wgt (.slice (.pair (.int .i64) (.pair .str (.pair (.slice (.pair (.int .i64) (.pair (.int .i64) .str))) (.pair (.slice (.pair (.int .i64) (.pair (.int .i64) .str))) (.pair (.int .i64) (.pair .str (.pair (.slice (.pair .str (.pair (.int .i64) (.pair .bool (.pair .bool (.pair (.int .i64) (.pair (.int .i64) .str))))))) (.pair (.slice .str) (.pair .str .str)))))))))) a = (a.map (wgt (.pair (.int .i64) (.pair .str (.pair (.slice (.pair (.int .i64) (.pair (.int .i64) .str))) (.pair (.slice (.pair (.int .i64) (.pair (.int .i64) .str))) (.pair (.int .i64) (.pair .str (.pair (.slice (.pair .str (.pair (.int .i64) (.pair .bool (.pair .bool (.pair (.int .i64) (.pair (.int .i64) .str))))))) (.pair (.slice .str) (.pair .str .str))))))))))).sum := rfl
  rw [hwg] at hk ⊢
  have hll := mkL_len (wgt (.pair (.int .i64) (.pair .str (.pair (.slice (.pair (.int .i64) (.pair (.int .i64) .str))) (.pair (.slice (.pair (.int .i64) (.pair (.int .i64) .str))) (.pair (.int .i64) (.pair .str (.pair (.slice (.pair .str (.pair (.int .i64) (.pair .bool (.pair .bool (.pair (.int .i64) (.pair (.int .i64) .str))))))) (.pair (.slice .str) (.pair .str .str)))))))))) (mk (.pair (.int .i64) (.pair .str (.pair (.slice (.pair (.int .i64) (.pair (.int .i64) .str))) (.pair (.slice (.pair (.int .i64) (.pair (.int .i64) .str))) (.pair (.int .i64) (.pair .str (.pair (.slice (.pair .str (.pair (.int .i64) (.pair .bool (.pair .bool (.pair (.int .i64) (.pair (.int .i64) .str))))))) (.pair (.slice .str) (.pair .str .str)))))))))) a k
  have hg := mkL_get (wgt (.pair (.int .i64) (.pair .str (.pair (.slice (.pair (.int .i64) (.pair (.int .i64) .str))) (.pair (.slice (.pair (.int .i64) (.pair (.int .i64) .str))) (.pair (.int .i64) (.pair .str (.pair (.slice (.pair .str (.pair (.int .i64) (.pair .bool (.pair .bool (.pair (.int .i64) (.pair (.int .i64) .str))))))) (.pair (.slice .str) (.pair .str .str)))))))))) (mk (.pair (.int .i64) (.pair .str (.pair (.slice (.pair (.int .i64) (.pair (.int .i64) .str))) (.pair (.slice (.pair (.int .i64) (.pair (.int .i64) .str))) (.pair (.int .i64) (.pair .str (.pair (.slice (.pair .str (.pair (.int .i64) (.pair .bool (.pair .bool (.pair (.int .i64) (.pair (.int .i64) .str))))))) (.pair (.slice .str) (.pair .str .str)))))))))) a k
  generalize mkL (wgt (.pair (.int .i64) (.pair .str (.pair (.slice (.pair (.int .i64) (.pair (.int .i64) .str))) (.pair (.slice (.pair (.int .i64) (.pair (.int .i64) .str))) (.pair (.int .i64) (.pair .str (.pair (.slice (.pair .str (.pair (.int .i64) (.pair .bool (.pair .bool (.pair (.int .i64) (.pair (.int .i64) .str))))))) (.pair (.slice .str) (.pair .str .str)))))))))) (mk (.pair (.int .i64) (.pair .str (.pair (.slice (.pair (.int .i64) (.pair (.int .i64) .str))) (.pair (.slice (.pair (.int .i64) (.pair (.int .i64) .str))) (.pair (.int .i64) (.pair .str (.pair (.slice (.pair .str (.pair (.int .i64) (.pair .bool (.pair .bool (.pair (.int .i64) (.pair (.int .i64) .str))))))) (.pair (.slice .str) (.pair .str .str)))))))))) a k = l at hll hg
  unfold laws_heldStmtS laws_heldStmtS_l0
  have := held_loop (wgt (.pair (.int .i64) (.pair .str (.pair (.slice (.pair (.int .i64) (.pair (.int .i64) .str))) (.pair (.slice (.pair (.int .i64) (.pair (.int .i64) .str))) (.pair (.int .i64) (.pair .str (.pair (.slice (.pair .str (.pair (.int .i64) (.pair .bool (.pair .bool (.pair (.int .i64) (.pair (.int .i64) .str))))))) (.pair (.slice .str) (.pair .str .str)))))))))) a k (fun k i => (k, i)) (step := laws_heldStmtS_l0_s l) ((fun (k_1 : Int) => K k_1), (fun (_ : Unit) => K (-1))) (fun k => K k) (by unfold LIM; omega) (fun i rec hi => by
    have e1 := sum_take (wgt (.pair (.int .i64) (.pair .str (.pair (.slice (.pair (.int .i64) (.pair (.int .i64) .str))) (.pair (.slice (.pair (.int .i64) (.pair (.int .i64) .str))) (.pair (.int .i64) (.pair .str (.pair (.slice (.pair .str (.pair (.int .i64) (.pair .bool (.pair .bool (.pair (.int .i64) (.pair (.int .i64) .str))))))) (.pair (.slice .str) (.pair .str .str)))))))))) a i hi
    have e2 := sum_take_le (wgt (.pair (.int .i64) (.pair .str (.pair (.slice (.pair (.int .i64) (.pair (.int .i64) .str))) (.pair (.slice (.pair (.int .i64) (.pair (.int .i64) .str))) (.pair (.int .i64) (.pair .str (.pair (.slice (.pair .str (.pair (.int .i64) (.pair .bool (.pair .bool (.pair (.int .i64) (.pair (.int .i64) .str))))))) (.pair (.slice .str) (.pair .str .str)))))))))) a (i + 1)
    have hgi := hg i hi (by omega)
    generalize hκ : k + ((((a.take i).map (wgt (.pair (.int .i64) (.pair .str (.pair (.slice (.pair (.int .i64) (.pair (.int .i64) .str))) (.pair (.slice (.pair (.int .i64) (.pair (.int .i64) .str))) (.pair (.int .i64) (.pair .str (.pair (.slice (.pair .str (.pair (.int .i64) (.pair .bool (.pair .bool (.pair (.int .i64) (.pair (.int .i64) .str))))))) (.pair (.slice .str) (.pair .str .str))))))))))).sum : Nat) : Int) = κ at hgi
    have hκ1 : 1 ≤ κ ∧ κ + (wgt (.pair (.int .i64) (.pair .str (.pair (.slice (.pair (.int .i64) (.pair (.int .i64) .str))) (.pair (.slice (.pair (.int .i64) (.pair (.int .i64) .str))) (.pair (.int .i64) (.pair .str (.pair (.slice (.pair .str (.pair (.int .i64) (.pair .bool (.pair .bool (.pair (.int .i64) (.pair (.int .i64) .str))))))) (.pair (.slice .str) (.pair .str .str))))))))) a[i] : Int) ≤ 4294967296 := by omega
    have hw : (wgt (.pair (.int .i64) (.pair .str (.pair (.slice (.pair (.int .i64) (.pair (.int .i64) .str))) (.pair (.slice (.pair (.int .i64) (.pair (.int .i64) .str))) (.pair (.int .i64) (.pair .str (.pair (.slice (.pair .str (.pair (.int .i64) (.pair .bool (.pair .bool (.pair (.int .i64) (.pair (.int .i64) .str))))))) (.pair (.slice .str) (.pair .str .str))))))))) a[i] : Int) = 1 + 1 + (wgt (.slice (.pair (.int .i64) (.pair (.int .i64) .str))) a[i].2.2.1 : Int) + (wgt (.slice (.pair (.int .i64) (.pair (.int .i64) .str))) a[i].2.2.2.1 : Int) + 1 + 1 + (wgt (.slice (.pair .str (.pair (.int .i64) (.pair .bool (.pair .bool (.pair (.int .i64) (.pair (.int .i64) .str))))))) a[i].2.2.2.2.2.2.1 : Int) + (wgt (.slice .str) a[i].2.2.2.2.2.2.2.1 : Int) + 1 + 1 := by
      have : wgt (.pair (.int .i64) (.pair .str (.pair (.slice (.pair (.int .i64) (.pair (.int .i64) .str))) (.pair (.slice (.pair (.int .i64) (.pair (.int .i64) .str))) (.pair (.int .i64) (.pair .str (.pair (.slice (.pair .str (.pair (.int .i64) (.pair .bool (.pair .bool (.pair (.int .i64) (.pair (.int .i64) .str))))))) (.pair (.slice .str) (.pair .str .str))))))))) a[i] = 1 + 1 + (wgt (.slice (.pair (.int .i64) (.pair (.int .i64) .str))) a[i].2.2.1) + (wgt (.slice (.pair (.int .i64) (.pair (.int .i64) .str))) a[i].2.2.2.1) + 1 + 1 + (wgt (.slice (.pair .str (.pair (.int .i64) (.pair .bool (.pair .bool (.pair (.int .i64) (.pair (.int .i64) .str))))))) a[i].2.2.2.2.2.2.1) + (wgt (.slice .str) a[i].2.2.2.2.2.2.2.1) + 1 + 1 := by first | rfl | (simp only [wgt]; done) | (simp only [wgt]; omega)
      first | rfl | omega
    have hr0 : msr (.slice (.pair (.int .i64) (.pair (.int .i64) .str))) a[i].2.2.1 ≤ 1048576 := by
      have q1 := msr_mem h (List.getElem_mem hi)
      have q2 : msr (.slice (.pair (.int .i64) (.pair (.int .i64) .str))) a[i].2.2.1 ≤ msr (.pair (.int .i64) (.pair .str (.pair (.slice (.pair (.int .i64) (.pair (.int .i64) .str))) (.pair (.slice (.pair (.int .i64) (.pair (.int .i64) .str))) (.pair (.int .i64) (.pair .str (.pair (.slice (.pair .str (.pair (.int .i64) (.pair .bool (.pair .bool (.pair (.int .i64) (.pair (.int .i64) .str))))))) (.pair (.slice .str) (.pair .str .str))))))))) a[i] := by first | exact Nat.le_refl _ | (simp only [msr]; omega)
      omega
    have hr1 : msr (.slice (.pair (.int .i64) (.pair (.int .i64) .str))) a[i].2.2.2.1 ≤ 1048576 := by
      have q1 := msr_mem h (List.getElem_mem hi)
      have q2 : msr (.slice (.pair (.int .i64) (.pair (.int .i64) .str))) a[i].2.2.2.1 ≤ msr (.pair (.int .i64) (.pair .str (.pair (.slice (.pair (.int .i64) (.pair (.int .i64) .str))) (.pair (.slice (.pair (.int .i64) (.pair (.int .i64) .str))) (.pair (.int .i64) (.pair .str (.pair (.slice (.pair .str (.pair (.int .i64) (.pair .bool (.pair .bool (.pair (.int .i64) (.pair (.int .i64) .str))))))) (.pair (.slice .str) (.pair .str .str))))))))) a[i] := by first | exact Nat.le_refl _ | (simp only [msr]; omega)
      omega
    have hr2 : msr (.slice (.pair .str (.pair (.int .i64) (.pair .bool (.pair .bool (.pair (.int .i64) (.pair (.int .i64) .str))))))) a[i].2.2.2.2.2.2.1 ≤ 1048576 := by
      have q1 := msr_mem h (List.getElem_mem hi)
      have q2 : msr (.slice (.pair .str (.pair (.int .i64) (.pair .bool (.pair .bool (.pair (.int .i64) (.pair (.int .i64) .str))))))) a[i].2.2.2.2.2.2.1 ≤ msr (.pair (.int .i64) (.pair .str (.pair (.slice (.pair (.int .i64) (.pair (.int .i64) .str))) (.pair (.slice (.pair (.int .i64) (.pair (.int .i64) .str))) (.pair (.int .i64) (.pair .str (.pair (.slice (.pair .str (.pair (.int .i64) (.pair .bool (.pair .bool (.pair (.int .i64) (.pair (.int .i64) .str))))))) (.pair (.slice .str) (.pair .str .str))))))))) a[i] := by first | exact Nat.le_refl _ | (simp only [msr]; omega)
      omega
    have hr3 : msr (.slice .str) a[i].2.2.2.2.2.2.2.1 ≤ 1048576 := by
      have q1 := msr_mem h (List.getElem_mem hi)
      have q2 : msr (.slice .str) a[i].2.2.2.2.2.2.2.1 ≤ msr (.pair (.int .i64) (.pair .str (.pair (.slice (.pair (.int .i64) (.pair (.int .i64) .str))) (.pair (.slice (.pair (.int .i64) (.pair (.int .i64) .str))) (.pair (.int .i64) (.pair .str (.pair (.slice (.pair .str (.pair (.int .i64) (.pair .bool (.pair .bool (.pair (.int .i64) (.pair (.int .i64) .str))))))) (.pair (.slice .str) (.pair .str .str))))))))) a[i] := by first | exact Nat.le_refl _ | (simp only [msr]; omega)
      omega
    show laws_heldStmtS_l0_r _ _ _ _ _ _ = _
    dsimp only
    unfold laws_heldStmtS_l0_r
    have hi' : i < l.length := by omega
    simp (disch := first | assumption | omega) only [nI_lt, inb_nat, cond_true, cond_false, nth_nat, hgi, mk_pair, mk_slice, mk_i64, mk_u8, mk_bool, mk_str, wgt_pair, wgt_int, wgt_bool, wgt_str, Int.natCast_add, Int.natCast_one, ← Int.add_assoc, wi64_in, markText_eq, bne_f, sNe_self, beq_self_eq_true, Bool.not_true, dec_lt_f, heldColS_eq, heldStringS_eq, heldValS_eq]
    all_goals (congr 2; omega)) (fun k rec => by
    show laws_heldStmtS_l0_r _ _ _ _ _ _ = _
    dsimp only
    unfold laws_heldStmtS_l0_r
    rw [← hll, nI_ge, cond_false])
  exact this
end Go.PI.G
namespace Go.PI.G
open Go Go.PI Go.Proofs

def mdV (a b : DB) : List ST × Bool := bif dbB a && (dbB b && alike zT sameT a.1 b.1) then (mendV a b, true) else ([], false)
theorem specMD (a b : DB) (ha : msr yDB a ≤ 1048576) (hb : msr yDB b ≤ 1048576) (k : List ST → Bool → Res) : spec_Mend a b k = k (mdV a b).1 (mdV a b).2 := by
  rw [specMend_eq a b ha hb]; unfold mdV
  cases dbB a && (dbB b && alike zT sameT a.1 b.1) <;> rfl
theorem implMD (a b : DB) (ha : msr yDB a ≤ 1048576) (hb : msr yDB b ≤ 1048576) (k : List ST → Bool → Res) : impl_Mend a b k = k (mdV a b).1 (mdV a b).2 := by
  rw [implMend_eq a b ha hb]; unfold mdV
  cases dbB a && (dbB b && alike zT sameT a.1 b.1) <;> rfl
theorem msr_app {e : Ty} (l m : List (El e)) : msr (.slice e) (l ++ m) = msr (.slice e) l + msr (.slice e) m := by
  rw [msr_slice, msr_slice, msr_slice, List.length_append, List.map_append, List.sum_append]; omega
theorem mdV_msr (a b : DB) : msr (.slice yST) (mdV a b).1 ≤ 1048576 := by
  unfold mdV
  cases da : dbB a
  · exact Nat.zero_le _
  · cases db : dbB b
    · exact Nat.zero_le _
    · cases hal : alike zT sameT a.1 b.1
      · exact Nat.zero_le _
      · obtain ⟨p1, p2, p3⟩ := dbB_parts da
        obtain ⟨q1, q2, q3⟩ := dbB_parts db
        have hc := catB_len p1
        have hte := alike_iff (fun x y h => sameT_iff h) hal
        have hl' : a.1.length = b.1.length := by rw [hte]
        have hw : walkL (fun i out t => (.ok (out ++ mendAt a b i t) : Except Unit (List ST))) 0 a.1 [] = .ok (mendV a b) := mendW_ok a b
        have hst : ∀ (l : List T) (i : Nat) (out r : List ST), (∀ (j : Nat) (h : j < l.length), msr (.slice yST) (mendAt a b (i + j) l[j]) ≤ 108180) → walkL (fun i out t => (.ok (out ++ mendAt a b i t) : Except Unit (List ST))) i l out = .ok r → msr (.slice yST) r ≤ msr (.slice yST) out + 108180 * l.length := by
          intro l
          induction l with
          | nil =>
            intro i out r _ h
            simp only [walkL, Except.ok.injEq] at h
            subst h; simp
          | cons x l ih =>
            intro i out r hb h
            simp only [walkL] at h
            have h0 := hb 0 (by simp)
            have := ih (i + 1) (out ++ mendAt a b i x) r (fun j hj => by
              have := hb (j + 1) (by simpa using hj)
              rw [show i + 1 + j = i + (j + 1) by omega]
              simpa using this) h
            rw [msr_app] at this
            have h1 : msr (.slice yST) (mendAt a b i x) ≤ 108180 := h0
            rw [List.length_cons]
            omega
        have := hst a.1 0 [] (mendV a b) (fun j hj => by
          have h1 : j < b.1.length := by omega
          have h2 : j < a.2.length := by omega
          have h3 : j < b.2.length := by omega
          have hrb : rowsB a.1[j] b.2[j] = true := by
            have := q3 j h1 h3
            simp only [← hte] at this
            exact this
          unfold mendAt
          rw [show 0 + j = j by omega, nth_nat _ _ _ h2, nth_nat _ _ _ h3]
          exact mendS_msr' _ _ _ (p3 j hj h2) hrb) hw
        have h0 : msr (.slice yST) [] = 0 := rfl
        rw [h0] at this
        show msr (.slice yST) (mendV a b) ≤ 1048576
        omega

theorem row_FnExactMend (x0 : DB) (w0 : Wf yDB x0) (x1 : DB) (w1 : Wf yDB x1) (k : Bool → Res) : laws_FnExactMend x0 x1 k = k true := by
  unfold laws_FnExactMend
  rw [szDb_eq x0 1048576 (by omega) (by omega) w0]
  by_cases hm : ((msr yDB x0 : Nat) : Int) ≤ 1048576
  rotate_left
  · rw [szR_neg hm]; rfl
  have hm' : msr yDB x0 ≤ 1048576 := by omega
  rw [szR_pos hm, decide_eq_false (by omega), cond_false, szDb_eq x1 (1048576 - ((msr yDB x0 : Nat) : Int)) (by omega) (by omega) w1]
  by_cases hn : ((msr yDB x1 : Nat) : Int) ≤ 1048576 - ((msr yDB x0 : Nat) : Int)
  rotate_left
  · rw [szR_neg hn]; rfl
  have hn' : msr yDB x1 ≤ 1048576 := by omega
  rw [szR_pos hn, decide_eq_false (by omega), cond_false, toDb_eq x0 hm', toDb_eq x1 hn', specMD x0 x1 hm' hn', toDb_eq x0 hm', toDb_eq x1 hn']
  have hq := mdV_msr x0 x1
  generalize hr : mdV x0 x1 = r at hq
  obtain ⟨l, ok⟩ := r
  have hb : ∀ x : Bool, (x == x) = true := by decide
  unfold laws_FnExactMend_p2
  rw [implMD x0 x1 hm' hn', hr]
  dsimp only at hq ⊢
  rw [eqStmtS_eq _ hq, Bool.not_true, cond_false, hb, Bool.not_true, cond_false, toDb_eq x0 hm', eqDb_eq x0 hm', Bool.not_true, cond_false, toDb_eq x1 hn', eqDb_eq x1 hn', Bool.not_true, cond_false]
  have e0 := wgt_small (τ := yDB) (by decide) hm'
  have e0' := wgtT_le_wgt yDB x0
  have e1 := wgt_small (τ := yDB) (by decide) hn'
  have e1' := wgtT_le_wgt yDB x1
  have e3 := wgt_small (τ := .slice yST) (by decide) hq
  have k0 : (1 : Int) + ((wgtT yDB x0 : Nat) : Int) ≤ 4294967296 := by omega
  have k1 : (1 : Int) + ((wgtT yDB x0 : Nat) : Int) + ((wgtT yDB x1 : Nat) : Int) ≤ 4294967296 := by omega
  have k3 : (1 : Int) + ((wgt (.slice yST) l : Nat) : Int) ≤ 4294967296 := by omega
  unfold laws_FnExactMend_p1
  rw [markDb_eq x0 1 hm' (by omega) k0, markDb_eq x1 _ hn' (by omega) k1, decide_eq_false (by omega), cond_false, eqStmtS_eq _ hq, Bool.not_true, cond_false, hb, Bool.not_true, cond_false, markStmtS_eq _ 1 hq (by omega) k3, heldStmtS_eq _ 1 hq (by omega) k3, decide_eq_false (by omega), cond_false]
  unfold laws_FnExactMend_p0
  rw [bne_f, cond_false, toDb_eq x0 hm', toDb_eq x1 hn', implMD x0 x1 hm' hn', hr]
  dsimp only
  rw [eqStmtS_eq _ hq, Bool.not_true, cond_false, hb, Bool.not_true, cond_false, heldStmtS_eq _ 1 hq (by omega) k3, decide_eq_false (by omega), cond_false, bne_f, cond_false]
end Go.PI.G
