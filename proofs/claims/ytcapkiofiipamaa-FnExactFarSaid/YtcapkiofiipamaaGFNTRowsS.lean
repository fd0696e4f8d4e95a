/-
  What the exact laws do with a kind of argument. Lemmas; no conditions.
-/
import Derived.Test.YtcapkiofiipamaaK3
import Derived.Test.YtcapkiofiipamaaGFTRowsS
import Derived.Test.YtcapkiofiipamaaGFNTRows
set_option linter.unusedVariables false
set_option linter.unusedSimpArgs false
set_option maxRecDepth 10000
namespace Go.PI.G
open Go Go.PI Go.Proofs

theorem toRowsS_eq (a : (List (List (List (Int × Int × ByteArray))))) (h : msr (.slice (.slice (.slice (.pair (.int .i64) (.pair (.int .i64) .str))))) a ≤ 1048576) (k : (List (List (List (Int × Int × ByteArray)))) → Res) : laws_toRowsS a k = k a := by
  have hl : a.length ≤ 1048576 := msr_len h
  unfold laws_toRowsS
  rw [mkOk_of (by unfold LIM; omega), cond_true]
  have := to_loop ([]) a id (step := laws_toRowsS_l0_s a) (fun out => k out) (by unfold LIM; omega) (fun out i rec hi hlo => by
    show laws_toRowsS_l0_r a _ _ _ _ = _
    unfold laws_toRowsS_l0_r
    dsimp only
    simp only [nI_lt hi, cond_true, inb_nat hi, inb_nat (show i < out.length by omega), nth_nat _ _ _ hi, upd_nat, wi64_in (n := (i : Int) + 1) (by omega), toRows_eq _ (msr_mem h (List.getElem_mem hi))]
    rfl) (fun out rec => by
    show laws_toRowsS_l0_r a _ _ _ _ = _
    unfold laws_toRowsS_l0_r
    dsimp only
    rw [nI_ge, cond_false])
  rw [List.map_id] at this
  exact this

theorem szRowsS_eq (a : (List (List (List (Int × Int × ByteArray))))) (left : Int) (h0 : 0 ≤ left) (h1 : left ≤ 1048576) (hw : Wf (.slice (.slice (.slice (.pair (.int .i64) (.pair (.int .i64) .str))))) a) (k : Int → Res) : laws_szRowsS a left k = k (szR left (msr (.slice (.slice (.slice (.pair (.int .i64) (.pair (.int .i64) .str))))) a)) := by
  have hl : a.length ≤ maxLen := hw.1
  have hm : msr (.slice (.slice (.slice (.pair (.int .i64) (.pair (.int .i64) .str))))) a = a.length + (a.map (msr (.slice (.slice (.pair (.int .i64) (.pair (.int .i64) .str)))))).sum := rfl
  rw [hm]
  unfold laws_szRowsS
  refine sz_str (F := fun q => laws_szRowsS_l0 a FUEL q 0 (fun left1 => k left1) (fun _ => k (-1))) (k := k) h0 h1 hl fun hb => ?_
  unfold laws_szRowsS_l0
  rw [sz_loop (msr (.slice (.slice (.pair (.int .i64) (.pair (.int .i64) .str))))) a _ (by omega) (fun left i rec hi h0 h1 => ?_) (fun left rec => ?_) _ (by omega) (by omega)]
  · by_cases hb : (((a.map (msr (.slice (.slice (.pair (.int .i64) (.pair (.int .i64) .str)))))).sum : Nat) : Int) ≤ left - a.length
    · rw [if_pos hb, szR_pos hb]
    · rw [if_neg hb, szR_neg hb]
  · show laws_szRowsS_l0_r a _ _ _ _ _ = _
    have hx := hw.2 _ (List.getElem_mem hi)
    unfold laws_szRowsS_l0_r
    rw [nI_lt hi, cond_true, inb_nat hi, cond_true, nth_nat _ _ _ hi, szRows_eq _ _ h0 h1 hx]
    have hi9 : (i : Int) < 4611686018427387904 := by unfold maxLen at hl; omega
    rw [wi64_in (n := (i : Int) + 1) (by omega)]
    by_cases hb : ((msr (.slice (.slice (.pair (.int .i64) (.pair (.int .i64) .str)))) a[i] : Nat) : Int) ≤ left
    · rw [if_pos hb, szR_pos hb, dec_lt_f (by omega), cond_false]
    · rw [if_neg hb, szR_neg hb, dec_lt_t (by omega), cond_true]
  · show laws_szRowsS_l0_r a _ _ _ _ _ = _
    unfold laws_szRowsS_l0_r
    rw [nI_ge, cond_false]

theorem eqRowsS_eq (a : (List (List (List (Int × Int × ByteArray))))) (h : msr (.slice (.slice (.slice (.pair (.int .i64) (.pair (.int .i64) .str))))) a ≤ 1048576) (k : Bool → Res) : laws_eqRowsS a a k = k true := by
  have hl : a.length ≤ 1048576 := msr_len h
  unfold laws_eqRowsS
  rw [bne_f, cond_false]
  unfold laws_eqRowsS_l0
  rw [eq_loop a _ (by unfold LIM; omega) (fun i rec hi => ?_) (fun rec => ?_)]
  · show laws_eqRowsS_l0_r a a _ _ _ _ = _
    unfold laws_eqRowsS_l0_r
    simp only [nI_lt hi, cond_true, inb_nat hi, nth_nat _ _ _ hi, wi64_in (n := (i : Int) + 1) (by omega), bne_f, sNe_self, cond_false, Bool.not_true, eqRows_eq _ (msr_mem h (List.getElem_mem hi))]
  · show laws_eqRowsS_l0_r a a _ _ _ _ = _
    unfold laws_eqRowsS_l0_r
    rw [nI_ge, cond_false]
end Go.PI.G
