/-
  What the exact laws do with a kind of argument. Lemmas; no conditions.
-/
import Derived.Test.YtcapkiofiipamaaGRNText
import Derived.Test.YtcapkiofiipamaaGRTValS
import Derived.Test.YtcapkiofiipamaaGRNTVal
set_option linter.unusedVariables false
set_option linter.unusedSimpArgs false
set_option maxRecDepth 10000
namespace Go.PI.G
open Go Go.PI Go.Proofs

theorem toValS_eq (a : (List (Int × Int × ByteArray))) (h : msr (.slice (.pair (.int .i64) (.pair (.int .i64) .str))) a ≤ 1048576) (k : (List (Int × Int × ByteArray)) → Res) : laws_toValS a k = k a := by
  have hl : a.length ≤ 1048576 := msr_len h
  unfold laws_toValS
  rw [mkOk_of (by unfold LIM; omega), cond_true]
  have := to_loop ((0, 0, eS)) a id (step := laws_toValS_l0_s a) (fun out => k out) (by unfold LIM; omega) (fun out i rec hi hlo => by
    show laws_toValS_l0_r a _ _ _ _ = _
    unfold laws_toValS_l0_r
    dsimp only
    simp only [nI_lt hi, cond_true, inb_nat hi, inb_nat (show i < out.length by omega), nth_nat _ _ _ hi, upd_nat, wi64_in (n := (i : Int) + 1) (by omega), toVal_eq _ (msr_mem h (List.getElem_mem hi))]
    rfl) (fun out rec => by
    show laws_toValS_l0_r a _ _ _ _ = _
    unfold laws_toValS_l0_r
    dsimp only
    rw [nI_ge, cond_false])
  rw [List.map_id] at this
  exact this

theorem szValS_eq (a : (List (Int × Int × ByteArray))) (left : Int) (h0 : 0 ≤ left) (h1 : left ≤ 1048576) (hw : Wf (.slice (.pair (.int .i64) (.pair (.int .i64) .str))) a) (k : Int → Res) : laws_szValS a left k = k (szR left (msr (.slice (.pair (.int .i64) (.pair (.int .i64) .str))) a)) := by
  have hl : a.length ≤ maxLen := hw.1
  have hm : msr (.slice (.pair (.int .i64) (.pair (.int .i64) .str))) a = a.length + (a.map (msr (.pair (.int .i64) (.pair (.int .i64) .str)))).sum := rfl
  rw [hm]
  unfold laws_szValS
  refine sz_str (F := fun q => laws_szValS_l0 a FUEL q 0 (fun left1 => k left1) (fun _ => k (-1))) (k := k) h0 h1 hl fun hb => ?_
  unfold laws_szValS_l0
  rw [sz_loop (msr (.pair (.int .i64) (.pair (.int .i64) .str))) a _ (by omega) (fun left i rec hi h0 h1 => ?_) (fun left rec => ?_) _ (by omega) (by omega)]
  · by_cases hb : (((a.map (msr (.pair (.int .i64) (.pair (.int .i64) .str)))).sum : Nat) : Int) ≤ left - a.length
    · rw [if_pos hb, szR_pos hb]
    · rw [if_neg hb, szR_neg hb]
  · show laws_szValS_l0_r a _ _ _ _ _ = _
    have hx := hw.2 _ (List.getElem_mem hi)
    unfold laws_szValS_l0_r
    rw [nI_lt hi, cond_true, inb_nat hi, cond_true, nth_nat _ _ _ hi, szVal_eq _ _ h0 h1 hx]
    have hi9 : (i : Int) < 4611686018427387904 := by unfold maxLen at hl; omega
    rw [wi64_in (n := (i : Int) + 1) (by omega)]
    by_cases hb : ((msr (.pair (.int .i64) (.pair (.int .i64) .str)) a[i] : Nat) : Int) ≤ left
    · rw [if_pos hb, szR_pos hb, dec_lt_f (by omega), cond_false]
    · rw [if_neg hb, szR_neg hb, dec_lt_t (by omega), cond_true]
  · show laws_szValS_l0_r a _ _ _ _ _ = _
    unfold laws_szValS_l0_r
    rw [nI_ge, cond_false]

theorem eqValS_eq (a : (List (Int × Int × ByteArray))) (h : msr (.slice (.pair (.int .i64) (.pair (.int .i64) .str))) a ≤ 1048576) (k : Bool → Res) : laws_eqValS a a k = k true := by
  have hl : a.length ≤ 1048576 := msr_len h
  unfold laws_eqValS
  rw [bne_f, cond_false]
  unfold laws_eqValS_l0
  rw [eq_loop a _ (by unfold LIM; omega) (fun i rec hi => ?_) (fun rec => ?_)]
  · show laws_eqValS_l0_r a a _ _ _ _ = _
    unfold laws_eqValS_l0_r
    simp only [nI_lt hi, cond_true, inb_nat hi, nth_nat _ _ _ hi, wi64_in (n := (i : Int) + 1) (by omega), bne_f, sNe_self, cond_false, Bool.not_true, eqVal_eq _ (msr_mem h (List.getElem_mem hi))]
  · show laws_eqValS_l0_r a a _ _ _ _ = _
    unfold laws_eqValS_l0_r
    rw [nI_ge, cond_false]

theorem markValS_eq (a : (List (Int × Int × ByteArray))) (k : Int) (h : msr (.slice (.pair (.int .i64) (.pair (.int .i64) .str))) a ≤ 1048576) (h0 : 1 ≤ k) (hk : k + (wgt (.slice (.pair (.int .i64) (.pair (.int .i64) .str))) a : Int) ≤ 4294967296) (K : Int → (List (Int × Int × ByteArray)) → Res) : laws_markValS a k K = K (k + (wgt (.slice (.pair (.int .i64) (.pair (.int .i64) .str))) a : Int)) (mkL (wgt (.pair (.int .i64) (.pair (.int .i64) .str))) (mk (.pair (.int .i64) (.pair (.int .i64) .str))) a k) := by
  have hl : a.length ≤ 1048576 := msr_len h
  have hwg : wgt (.slice (.pair (.int .i64) (.pair (.int .i64) .str))) a = (a.map (wgt (.pair (.int .i64) (.pair (.int .i64) .str)))).sum := rfl
  rw [hwg] at hk ⊢
  unfold laws_markValS laws_markValS_l0
  have := mark_loop (wgt (.pair (.int .i64) (.pair (.int .i64) .str))) (mk (.pair (.int .i64) (.pair (.int .i64) .str))) a k (fun l k i => (l, k, i)) (step := laws_markValS_l0_s) (fun l k => K k l) (fun l k => K k l) (by unfold LIM; omega) (fun l i rec hi hll hli hla => by
    have e1 := sum_take (wgt (.pair (.int .i64) (.pair (.int .i64) .str))) a i hi
    have e2 := sum_take_le (wgt (.pair (.int .i64) (.pair (.int .i64) .str))) a (i + 1)
    generalize hκ : k + ((((a.take i).map (wgt (.pair (.int .i64) (.pair (.int .i64) .str)))).sum : Nat) : Int) = κ
    have hκ1 : 1 ≤ κ ∧ κ + (wgt (.pair (.int .i64) (.pair (.int .i64) .str)) a[i] : Int) ≤ 4294967296 := by omega
    have hw : (wgt (.pair (.int .i64) (.pair (.int .i64) .str)) a[i] : Int) = 1 + 1 + 1 := by
      have : wgt (.pair (.int .i64) (.pair (.int .i64) .str)) a[i] = 1 + 1 + 1 := by first | rfl | (simp only [wgt]; done) | (simp only [wgt]; omega)
      first | rfl | omega
    show laws_markValS_l0_r _ _ _ _ _ = _
    dsimp only
    unfold laws_markValS_l0_r
    rw [← hll] at hi
    have hi' : i < a.length := by omega
    simp (disch := first | assumption | omega) only [show nI a.length = nI l.length by rw [hll], nI_lt, inb_nat, upd_len, cond_true, nth_upd, upd_upd, nth_nat, hla, wi64_in, markText_eq, ← hll]
    rw [upd_nat]
    congr 3 <;> first | rfl | omega | skip) (fun l k rec hll => by
    show laws_markValS_l0_r _ _ _ _ _ = _
    dsimp only
    unfold laws_markValS_l0_r
    rw [← hll, nI_ge, cond_false])
  exact this

theorem heldValS_eq (a : (List (Int × Int × ByteArray))) (k : Int) (h : msr (.slice (.pair (.int .i64) (.pair (.int .i64) .str))) a ≤ 1048576) (h0 : 1 ≤ k) (hk : k + (wgt (.slice (.pair (.int .i64) (.pair (.int .i64) .str))) a : Int) ≤ 4294967296) (K : Int → Res) : laws_heldValS (mkL (wgt (.pair (.int .i64) (.pair (.int .i64) .str))) (mk (.pair (.int .i64) (.pair (.int .i64) .str))) a k) k K = K (k + (wgt (.slice (.pair (.int .i64) (.pair (.int .i64) .str))) a : Int)) := by
  have hl : a.length ≤ 1048576 := msr_len h
  have hwg : wgt (.slice (.pair (.int .i64) (.pair (.int .i64) .str))) a = (a.map (wgt (.pair (.int .i64) (.pair (.int .i64) .str)))).sum := rfl
  rw [hwg] at hk ⊢
  have hll := mkL_len (wgt (.pair (.int .i64) (.pair (.int .i64) .str))) (mk (.pair (.int .i64) (.pair (.int .i64) .str))) a k
  have hg := mkL_get (wgt (.pair (.int .i64) (.pair (.int .i64) .str))) (mk (.pair (.int .i64) (.pair (.int .i64) .str))) a k
  generalize mkL (wgt (.pair (.int .i64) (.pair (.int .i64) .str))) (mk (.pair (.int .i64) (.pair (.int .i64) .str))) a k = l at hll hg
  unfold laws_heldValS laws_heldValS_l0
  have := held_loop (wgt (.pair (.int .i64) (.pair (.int .i64) .str))) a k (fun k i => (k, i)) (step := laws_heldValS_l0_s l) ((fun (k_1 : Int) => K k_1), (fun (_ : Unit) => K (-1))) (fun k => K k) (by unfold LIM; omega) (fun i rec hi => by
    have e1 := sum_take (wgt (.pair (.int .i64) (.pair (.int .i64) .str))) a i hi
    have e2 := sum_take_le (wgt (.pair (.int .i64) (.pair (.int .i64) .str))) a (i + 1)
    have hgi := hg i hi (by omega)
    generalize hκ : k + ((((a.take i).map (wgt (.pair (.int .i64) (.pair (.int .i64) .str)))).sum : Nat) : Int) = κ at hgi
    have hκ1 : 1 ≤ κ ∧ κ + (wgt (.pair (.int .i64) (.pair (.int .i64) .str)) a[i] : Int) ≤ 4294967296 := by omega
    have hw : (wgt (.pair (.int .i64) (.pair (.int .i64) .str)) a[i] : Int) = 1 + 1 + 1 := by
      have : wgt (.pair (.int .i64) (.pair (.int .i64) .str)) a[i] = 1 + 1 + 1 := by first | rfl | (simp only [wgt]; done) | (simp only [wgt]; omega)
      first | rfl | omega
    show laws_heldValS_l0_r _ _ _ _ _ _ = _
    dsimp only
    unfold laws_heldValS_l0_r
    have hi' : i < l.length := by omega
    simp (disch := first | assumption | omega) only [nI_lt, inb_nat, cond_true, cond_false, nth_nat, hgi, mk_pair, mk_slice, mk_i64, mk_u8, mk_bool, mk_str, wgt_pair, wgt_int, wgt_bool, wgt_str, Int.natCast_add, Int.natCast_one, ← Int.add_assoc, wi64_in, markText_eq, bne_f, sNe_self, beq_self_eq_true, Bool.not_true, dec_lt_f]
    all_goals (congr 2; omega)) (fun k rec => by
    show laws_heldValS_l0_r _ _ _ _ _ _ = _
    dsimp only
    unfold laws_heldValS_l0_r
    rw [← hll, nI_ge, cond_false])
  exact this
end Go.PI.G
