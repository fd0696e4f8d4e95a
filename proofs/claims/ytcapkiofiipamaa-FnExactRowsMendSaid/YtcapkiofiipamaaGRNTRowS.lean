/-
  What the exact laws do with a kind of argument. Lemmas; no conditions.
-/
import Derived.Test.YtcapkiofiipamaaGRNText
import Derived.Test.YtcapkiofiipamaaGRTRowS
import Derived.Test.YtcapkiofiipamaaGRNTRow
import Derived.Test.YtcapkiofiipamaaGRNTValS
set_option linter.unusedVariables false
set_option linter.unusedSimpArgs false
set_option maxRecDepth 10000
namespace Go.PI.G
open Go Go.PI Go.Proofs

theorem toRowS_eq (a : (List (List (Int × Int × ByteArray)))) (h : msr (.slice (.slice (.pair (.int .i64) (.pair (.int .i64) .str)))) a ≤ 1048576) (k : (List (List (Int × Int × ByteArray))) → Res) : laws_toRowS a k = k a := by
  have hl : a.length ≤ 1048576 := msr_len h
  unfold laws_toRowS
  rw [mkOk_of (by unfold LIM; omega), cond_true]
  have := to_loop ([]) a id (step := laws_toRowS_l0_s a) (fun out => k out) (by unfold LIM; omega) (fun out i rec hi hlo => by
    show laws_toRowS_l0_r a _ _ _ _ = _
    unfold laws_toRowS_l0_r
    dsimp only
    simp only [nI_lt hi, cond_true, inb_nat hi, inb_nat (show i < out.length by omega), nth_nat _ _ _ hi, upd_nat, wi64_in (n := (i : Int) + 1) (by omega), toRow_eq _ (msr_mem h (List.getElem_mem hi))]
    rfl) (fun out rec => by
    show laws_toRowS_l0_r a _ _ _ _ = _
    unfold laws_toRowS_l0_r
    dsimp only
    rw [nI_ge, cond_false])
  rw [List.map_id] at this
  exact this

theorem szRowS_eq (a : (List (List (Int × Int × ByteArray)))) (left : Int) (h0 : 0 ≤ left) (h1 : left ≤ 1048576) (hw : Wf (.slice (.slice (.pair (.int .i64) (.pair (.int .i64) .str)))) a) (k : Int → Res) : laws_szRowS a left k = k (szR left (msr (.slice (.slice (.pair (.int .i64) (.pair (.int .i64) .str)))) a)) := by
  have hl : a.length ≤ maxLen := hw.1
  have hm : msr (.slice (.slice (.pair (.int .i64) (.pair (.int .i64) .str)))) a = a.length + (a.map (msr (.slice (.pair (.int .i64) (.pair (.int .i64) .str))))).sum := rfl
  rw [hm]
  unfold laws_szRowS
  refine sz_str (F := fun q => laws_szRowS_l0 a FUEL q 0 (fun left1 => k left1) (fun _ => k (-1))) (k := k) h0 h1 hl fun hb => ?_
  unfold laws_szRowS_l0
  rw [sz_loop (msr (.slice (.pair (.int .i64) (.pair (.int .i64) .str)))) a _ (by omega) (fun left i rec hi h0 h1 => ?_) (fun left rec => ?_) _ (by omega) (by omega)]
  · by_cases hb : (((a.map (msr (.slice (.pair (.int .i64) (.pair (.int .i64) .str))))).sum : Nat) : Int) ≤ left - a.length
    · rw [if_pos hb, szR_pos hb]
    · rw [if_neg hb, szR_neg hb]
  · show laws_szRowS_l0_r a _ _ _ _ _ = _
    have hx := hw.2 _ (List.getElem_mem hi)
    unfold laws_szRowS_l0_r
    rw [nI_lt hi, cond_true, inb_nat hi, cond_true, nth_nat _ _ _ hi, szRow_eq _ _ h0 h1 hx]
    have hi9 : (i : Int) < 4611686018427387904 := by unfold maxLen at hl; omega
    rw [wi64_in (n := (i : Int) + 1) (by omega)]
    by_cases hb : ((msr (.slice (.pair (.int .i64) (.pair (.int .i64) .str))) a[i] : Nat) : Int) ≤ left
    · rw [if_pos hb, szR_pos hb, dec_lt_f (by omega), cond_false]
    · rw [if_neg hb, szR_neg hb, dec_lt_t (by omega), cond_true]
  · show laws_szRowS_l0_r a _ _ _ _ _ = _
    unfold laws_szRowS_l0_r
    rw [nI_ge, cond_false]

theorem eqRowS_eq (a : (List (List (Int × Int × ByteArray)))) (h : msr (.slice (.slice (.pair (.int .i64) (.pair (.int .i64) .str)))) a ≤ 1048576) (k : Bool → Res) : laws_eqRowS a a k = k true := by
  have hl : a.length ≤ 1048576 := msr_len h
  unfold laws_eqRowS
  rw [bne_f, cond_false]
  unfold laws_eqRowS_l0
  rw [eq_loop a _ (by unfold LIM; omega) (fun i rec hi => ?_) (fun rec => ?_)]
  · show laws_eqRowS_l0_r a a _ _ _ _ = _
    unfold laws_eqRowS_l0_r
    simp only [nI_lt hi, cond_true, inb_nat hi, nth_nat _ _ _ hi, wi64_in (n := (i : Int) + 1) (by omega), bne_f, sNe_self, cond_false, Bool.not_true, eqRow_eq _ (msr_mem h (List.getElem_mem hi))]
  · show laws_eqRowS_l0_r a a _ _ _ _ = _
    unfold laws_eqRowS_l0_r
    rw [nI_ge, cond_false]

theorem markRowS_eq (a : (List (List (Int × Int × ByteArray)))) (k : Int) (h : msr (.slice (.slice (.pair (.int .i64) (.pair (.int .i64) .str)))) a ≤ 1048576) (h0 : 1 ≤ k) (hk : k + (wgt (.slice (.slice (.pair (.int .i64) (.pair (.int .i64) .str)))) a : Int) ≤ 4294967296) (K : Int → (List (List (Int × Int × ByteArray))) → Res) : laws_markRowS a k K = K (k + (wgt (.slice (.slice (.pair (.int .i64) (.pair (.int .i64) .str)))) a : Int)) (mkL (wgt (.slice (.pair (.int .i64) (.pair (.int .i64) .str)))) (mk (.slice (.pair (.int .i64) (.pair (.int .i64) .str)))) a k) := by
  have hl : a.length ≤ 1048576 := msr_len h
  have hwg : wgt (.slice (.slice (.pair (.int .i64) (.pair (.int .i64) .str)))) a = (a.map (wgt (.slice (.pair (.int .i64) (.pair (.int .i64) .str))))).sum := rfl
  rw [hwg] at hk ⊢
  unfold laws_markRowS laws_markRowS_l0
  have := mark_loop (wgt (.slice (.pair (.int .i64) (.pair (.int .i64) .str)))) (mk (.slice (.pair (.int .i64) (.pair (.int .i64) .str)))) a k (fun l k i => (l, k, i)) (step := laws_markRowS_l0_s) (fun l k => K k l) (fun l k => K k l) (by unfold LIM; omega) (fun l i rec hi hll hli hla => by
    have e1 := sum_take (wgt (.slice (.pair (.int .i64) (.pair (.int .i64) .str)))) a i hi
    have e2 := sum_take_le (wgt (.slice (.pair (.int .i64) (.pair (.int .i64) .str)))) a (i + 1)
    generalize hκ : k + ((((a.take i).map (wgt (.slice (.pair (.int .i64) (.pair (.int .i64) .str))))).sum : Nat) : Int) = κ
    have hκ1 : 1 ≤ κ ∧ κ + (wgt (.slice (.pair (.int .i64) (.pair (.int .i64) .str))) a[i] : Int) ≤ 4294967296 := by omega
    have hw : (wgt (.slice (.pair (.int .i64) (.pair (.int .i64) .str))) a[i] : Int) = (wgt (.slice (.pair (.int .i64) (.pair (.int .i64) .str))) a[i] : Int) := by
      have : wgt (.slice (.pair (.int .i64) (.pair (.int .i64) .str))) a[i] = (wgt (.slice (.pair (.int .i64) (.pair (.int .i64) .str))) a[i]) := by first | rfl | (simp only [wgt]; done) | (simp only [wgt]; omega)
      first | rfl | omega
    have hr0 : msr (.slice (.pair (.int .i64) (.pair (.int .i64) .str))) a[i] ≤ 1048576 := by
      have q1 := msr_mem h (List.getElem_mem hi)
      have q2 : msr (.slice (.pair (.int .i64) (.pair (.int .i64) .str))) a[i] ≤ msr (.slice (.pair (.int .i64) (.pair (.int .i64) .str))) a[i] := by first | exact Nat.le_refl _ | (simp only [msr]; omega)
      omega
    show laws_markRowS_l0_r _ _ _ _ _ = _
    dsimp only
    unfold laws_markRowS_l0_r
    rw [← hll] at hi
    have hi' : i < a.length := by omega
    simp (disch := first | assumption | omega) only [show nI a.length = nI l.length by rw [hll], nI_lt, inb_nat, upd_len, cond_true, nth_upd, upd_upd, nth_nat, hla, wi64_in, markText_eq, markValS_eq, ← hll]
    rw [upd_nat]
    congr 3 <;> first | rfl | omega | skip) (fun l k rec hll => by
    show laws_markRowS_l0_r _ _ _ _ _ = _
    dsimp only
    unfold laws_markRowS_l0_r
    rw [← hll, nI_ge, cond_false])
  exact this
end Go.PI.G
