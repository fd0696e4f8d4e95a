/-
  What the exact laws do with a kind of argument. Lemmas; no conditions.
-/
import Derived.Test.YtcapkiofiipamaaNText
import Derived.Test.YtcapkiofiipamaaGKTValSS
import Derived.Test.YtcapkiofiipamaaNTValS
set_option linter.unusedVariables false
set_option linter.unusedSimpArgs false
set_option maxRecDepth 10000
namespace Go.PI.G
open Go Go.PI Go.Proofs

theorem eqValSS_eq (a : (List (List (Int × Int × ByteArray)))) (h : msr (.slice (.slice (.pair (.int .i64) (.pair (.int .i64) .str)))) a ≤ 1048576) (k : Bool → Res) : laws_eqValSS a a k = k true := by
  have hl : a.length ≤ 1048576 := msr_len h
  unfold laws_eqValSS
  rw [bne_f, cond_false]
  unfold laws_eqValSS_l0
  rw [eq_loop a _ (by unfold LIM; omega) (fun i rec hi => ?_) (fun rec => ?_)]
  · show laws_eqValSS_l0_r a a _ _ _ _ = _
    unfold laws_eqValSS_l0_r
    simp only [nI_lt hi, cond_true, inb_nat hi, nth_nat _ _ _ hi, wi64_in (n := (i : Int) + 1) (by omega), bne_f, sNe_self, cond_false, Bool.not_true, eqValS_eq _ (msr_mem h (List.getElem_mem hi))]
  · show laws_eqValSS_l0_r a a _ _ _ _ = _
    unfold laws_eqValSS_l0_r
    rw [nI_ge, cond_false]

theorem markValSS_eq (a : (List (List (Int × Int × ByteArray)))) (k : Int) (h : msr (.slice (.slice (.pair (.int .i64) (.pair (.int .i64) .str)))) a ≤ 1048576) (h0 : 1 ≤ k) (hk : k + (wgt (.slice (.slice (.pair (.int .i64) (.pair (.int .i64) .str)))) a : Int) ≤ 4294967296) (K : Int → (List (List (Int × Int × ByteArray))) → Res) : laws_markValSS a k K = K (k + (wgt (.slice (.slice (.pair (.int .i64) (.pair (.int .i64) .str)))) a : Int)) (mkL (wgt (.slice (.pair (.int .i64) (.pair (.int .i64) .str)))) (mk (.slice (.pair (.int .i64) (.pair (.int .i64) .str)))) a k) := by
  have hl : a.length ≤ 1048576 := msr_len h
  have hwg : wgt (.slice (.slice (.pair (.int .i64) (.pair (.int .i64) .str)))) a = (a.map (wgt (.slice (.pair (.int .i64) (.pair (.int .i64) .str))))).sum := rfl
  rw [hwg] at hk ⊢
  unfold laws_markValSS laws_markValSS_l0
  have := mark_loop (wgt (.slice (.pair (.int .i64) (.pair (.int .i64) .str)))) (mk (.slice (.pair (.int .i64) (.pair (.int .i64) .str)))) a k (fun l k i => (l, k, i)) (step := laws_markValSS_l0_s) (fun l k => K k l) (fun l k => K k l) (by unfold LIM; omega) (fun l i rec hi hll hli hla => by
    have e1 := sum_take (wgt (.slice (.pair (.int .i64) (.pair (.int .i64) .str)))) a i hi
    have e2 := sum_take_le (wgt (.slice (.pair (.int .i64) (.pair (.int .i64) .str)))) a (i + 1)
    generalize hκ : k + ((((a.take i).map (wgt (.slice (.pair (.int .i64) (.pair (.int .i64) .str))))).sum : Nat) : Int) = κ
    have hκ1 : 1 ≤ κ ∧ κ + (wgt (.slice (.pair (.int .i64) (.pair (.int .i64) .str))) a[i] : Int) ≤ 4294967296 := by omega
    have hw : (wgt (.slice (.pair (.int .i64) (.pair (.int .i64) .str))) a[i] : Int) = (wgt (.slice (.pair (.int .i64) (.pair (.int .i64) .str))) a[i] : Int) := by
      have : wgt (.slice (.pair (.int .i64) (.pair (.int .i64) .str))) a[i] = (wgt (.slice (.pair (.int .i64) (.pair (.int .i64) .str))) a[i]) := by first | rfl | (simp only [wgt]; done) | (simp only [wgt]; omega)
      first | rfl | omega
    have hr0 : msr (.slice (.pair (.int .i64) (.pair (.int .i64) .str))) a[i] ≤ 1048576 := by
      have q1 := msr_mem h (List.getElem_mem hi)
      have q2 : msr (.slice (.pair (.int .i64) (.pair (.int .i64) .str))) a[i] ≤ msr (.slice (.pair (.int .i64) (.pair (.int .i64) .str))) a[i] := by first | exact Nat.le_refl _ | (simp only [msr]; omega)
      omega
    show laws_markValSS_l0_r _ _ _ _ _ = _
    dsimp only
    unfold laws_markValSS_l0_r
    rw [← hll] at hi
    have hi' : i < a.length := by omega
    simp (disch := first | assumption | omega) only [show nI a.length = nI l.length by rw [hll], nI_lt, inb_nat, upd_len, cond_true, nth_upd, upd_upd, nth_nat, hla, wi64_in, markText_eq, markValS_eq, ← hll]
    rw [upd_nat]
    congr 3 <;> first | rfl | omega | skip) (fun l k rec hll => by
    show laws_markValSS_l0_r _ _ _ _ _ = _
    dsimp only
    unfold laws_markValSS_l0_r
    rw [← hll, nI_ge, cond_false])
  exact this

theorem heldValSS_eq (a : (List (List (Int × Int × ByteArray)))) (k : Int) (h : msr (.slice (.slice (.pair (.int .i64) (.pair (.int .i64) .str)))) a ≤ 1048576) (h0 : 1 ≤ k) (hk : k + (wgt (.slice (.slice (.pair (.int .i64) (.pair (.int .i64) .str)))) a : Int) ≤ 4294967296) (K : Int → Res) : laws_heldValSS (mkL (wgt (.slice (.pair (.int .i64) (.pair (.int .i64) .str)))) (mk (.slice (.pair (.int .i64) (.pair (.int .i64) .str)))) a k) k K = K (k + (wgt (.slice (.slice (.pair (.int .i64) (.pair (.int .i64) .str)))) a : Int)) := by
  have hl : a.length ≤ 1048576 := msr_len h
  have hwg : wgt (.slice (.slice (.pair (.int .i64) (.pair (.int .i64) .str)))) a = (a.map (wgt (.slice (.pair (.int .i64) (.pair (.int .i64) .str))))).sum := rfl
  rw [hwg] at hk ⊢
  have hll := mkL_len (wgt (.slice (.pair (.int .i64) (.pair (.int .i64) .str)))) (mk (.slice (.pair (.int .i64) (.pair (.int .i64) .str)))) a k
  have hg := mkL_get (wgt (.slice (.pair (.int .i64) (.pair (.int .i64) .str)))) (mk (.slice (.pair (.int .i64) (.pair (.int .i64) .str)))) a k
  generalize mkL (wgt (.slice (.pair (.int .i64) (.pair (.int .i64) .str)))) (mk (.slice (.pair (.int .i64) (.pair (.int .i64) .str)))) a k = l at hll hg
  unfold laws_heldValSS laws_heldValSS_l0
  have := held_loop (wgt (.slice (.pair (.int .i64) (.pair (.int .i64) .str)))) a k (fun k i => (k, i)) (step := laws_heldValSS_l0_s l) ((fun (k_1 : Int) => K k_1), (fun (_ : Unit) => K (-1))) (fun k => K k) (by unfold LIM; omega) (fun i rec hi => by
    have e1 := sum_take (wgt (.slice (.pair (.int .i64) (.pair (.int .i64) .str)))) a i hi
    have e2 := sum_take_le (wgt (.slice (.pair (.int .i64) (.pair (.int .i64) .str)))) a (i + 1)
    have hgi := hg i hi (by omega)
    generalize hκ : k + ((((a.take i).map (wgt (.slice (.pair (.int .i64) (.pair (.int .i64) .str))))).sum : Nat) : Int) = κ at hgi
    have hκ1 : 1 ≤ κ ∧ κ + (wgt (.slice (.pair (.int .i64) (.pair (.int .i64) .str))) a[i] : Int) ≤ 4294967296 := by omega
    have hw : (wgt (.slice (.pair (.int .i64) (.pair (.int .i64) .str))) a[i] : Int) = (wgt (.slice (.pair (.int .i64) (.pair (.int .i64) .str))) a[i] : Int) := by
      have : wgt (.slice (.pair (.int .i64) (.pair (.int .i64) .str))) a[i] = (wgt (.slice (.pair (.int .i64) (.pair (.int .i64) .str))) a[i]) := by first | rfl | (simp only [wgt]; done) | (simp only [wgt]; omega)
      first | rfl | omega
    have hr0 : msr (.slice (.pair (.int .i64) (.pair (.int .i64) .str))) a[i] ≤ 1048576 := by
      have q1 := msr_mem h (List.getElem_mem hi)
      have q2 : msr (.slice (.pair (.int .i64) (.pair (.int .i64) .str))) a[i] ≤ msr (.slice (.pair (.int .i64) (.pair (.int .i64) .str))) a[i] := by first | exact Nat.le_refl _ | (simp only [msr]; omega)
      omega
    show laws_heldValSS_l0_r _ _ _ _ _ _ = _
    dsimp only
    unfold laws_heldValSS_l0_r
    have hi' : i < l.length := by omega
    simp (disch := first | assumption | omega) only [nI_lt, inb_nat, cond_true, cond_false, nth_nat, hgi, mk_pair, mk_slice, mk_i64, mk_u8, mk_bool, mk_str, wgt_pair, wgt_int, wgt_bool, wgt_str, Int.natCast_add, Int.natCast_one, ← Int.add_assoc, wi64_in, markText_eq, bne_f, sNe_self, beq_self_eq_true, Bool.not_true, dec_lt_f, heldValS_eq]
    all_goals (congr 2; omega)) (fun k rec => by
    show laws_heldValSS_l0_r _ _ _ _ _ _ = _
    dsimp only
    unfold laws_heldValSS_l0_r
    rw [← hll, nI_ge, cond_false])
  exact this
end Go.PI.G
