/-
  What the exact laws do with a kind of argument. Lemmas; no conditions.
-/
import Derived.Test.YtcapkiofiipamaaGRNText
import Derived.Test.YtcapkiofiipamaaGRTColS
import Derived.Test.YtcapkiofiipamaaGRNTCol
set_option linter.unusedVariables false
set_option linter.unusedSimpArgs false
set_option maxRecDepth 10000
namespace Go.PI.G
open Go Go.PI Go.Proofs

theorem toColS_eq (a : (List (ByteArray × Int × Bool × Bool × Int × Int × ByteArray))) (h : msr (.slice (.pair .str (.pair (.int .i64) (.pair .bool (.pair .bool (.pair (.int .i64) (.pair (.int .i64) .str))))))) a ≤ 1048576) (k : (List (ByteArray × Int × Bool × Bool × Int × Int × ByteArray)) → Res) : laws_toColS a k = k a := by
  have hl : a.length ≤ 1048576 := msr_len h
  unfold laws_toColS
  rw [mkOk_of (by unfold LIM; omega), cond_true]
  have := to_loop ((eS, 0, false, false, 0, 0, eS)) a id (step := laws_toColS_l0_s a) (fun out => k out) (by unfold LIM; omega) (fun out i rec hi hlo => by
    show laws_toColS_l0_r a _ _ _ _ = _
    unfold laws_toColS_l0_r
    dsimp only
    simp only [nI_lt hi, cond_true, inb_nat hi, inb_nat (show i < out.length by omega), nth_nat _ _ _ hi, upd_nat, wi64_in (n := (i : Int) + 1) (by omega), toCol_eq _ (msr_mem h (List.getElem_mem hi))]
    rfl) (fun out rec => by
    show laws_toColS_l0_r a _ _ _ _ = _
    unfold laws_toColS_l0_r
    dsimp only
    rw [nI_ge, cond_false])
  rw [List.map_id] at this
  exact this

theorem szColS_eq (a : (List (ByteArray × Int × Bool × Bool × Int × Int × ByteArray))) (left : Int) (h0 : 0 ≤ left) (h1 : left ≤ 1048576) (hw : Wf (.slice (.pair .str (.pair (.int .i64) (.pair .bool (.pair .bool (.pair (.int .i64) (.pair (.int .i64) .str))))))) a) (k : Int → Res) : laws_szColS a left k = k (szR left (msr (.slice (.pair .str (.pair (.int .i64) (.pair .bool (.pair .bool (.pair (.int .i64) (.pair (.int .i64) .str))))))) a)) := by
  have hl : a.length ≤ maxLen := hw.1
  have hm : msr (.slice (.pair .str (.pair (.int .i64) (.pair .bool (.pair .bool (.pair (.int .i64) (.pair (.int .i64) .str))))))) a = a.length + (a.map (msr (.pair .str (.pair (.int .i64) (.pair .bool (.pair .bool (.pair (.int .i64) (.pair (.int .i64) .str)))))))).sum := rfl
  rw [hm]
  unfold laws_szColS
  refine sz_str (F := fun q => laws_szColS_l0 a FUEL q 0 (fun left1 => k left1) (fun _ => k (-1))) (k := k) h0 h1 hl fun hb => ?_
  unfold laws_szColS_l0
  rw [sz_loop (msr (.pair .str (.pair (.int .i64) (.pair .bool (.pair .bool (.pair (.int .i64) (.pair (.int .i64) .str))))))) a _ (by omega) (fun left i rec hi h0 h1 => ?_) (fun left rec => ?_) _ (by omega) (by omega)]
  · by_cases hb : (((a.map (msr (.pair .str (.pair (.int .i64) (.pair .bool (.pair .bool (.pair (.int .i64) (.pair (.int .i64) .str)))))))).sum : Nat) : Int) ≤ left - a.length
    · rw [if_pos hb, szR_pos hb]
    · rw [if_neg hb, szR_neg hb]
  · show laws_szColS_l0_r a _ _ _ _ _ = _
    have hx := hw.2 _ (List.getElem_mem hi)
    unfold laws_szColS_l0_r
    rw [nI_lt hi, cond_true, inb_nat hi, cond_true, nth_nat _ _ _ hi, szCol_eq _ _ h0 h1 hx]
    have hi9 : (i : Int) < 4611686018427387904 := by unfold maxLen at hl; omega
    rw [wi64_in (n := (i : Int) + 1) (by omega)]
    by_cases hb : ((msr (.pair .str (.pair (.int .i64) (.pair .bool (.pair .bool (.pair (.int .i64) (.pair (.int .i64) .str)))))) a[i] : Nat) : Int) ≤ left
    · rw [if_pos hb, szR_pos hb, dec_lt_f (by omega), cond_false]
    · rw [if_neg hb, szR_neg hb, dec_lt_t (by omega), cond_true]
  · show laws_szColS_l0_r a _ _ _ _ _ = _
    unfold laws_szColS_l0_r
    rw [nI_ge, cond_false]

theorem eqColS_eq (a : (List (ByteArray × Int × Bool × Bool × Int × Int × ByteArray))) (h : msr (.slice (.pair .str (.pair (.int .i64) (.pair .bool (.pair .bool (.pair (.int .i64) (.pair (.int .i64) .str))))))) a ≤ 1048576) (k : Bool → Res) : laws_eqColS a a k = k true := by
  have hl : a.length ≤ 1048576 := msr_len h
  unfold laws_eqColS
  rw [bne_f, cond_false]
  unfold laws_eqColS_l0
  rw [eq_loop a _ (by unfold LIM; omega) (fun i rec hi => ?_) (fun rec => ?_)]
  · show laws_eqColS_l0_r a a _ _ _ _ = _
    unfold laws_eqColS_l0_r
    simp only [nI_lt hi, cond_true, inb_nat hi, nth_nat _ _ _ hi, wi64_in (n := (i : Int) + 1) (by omega), bne_f, sNe_self, cond_false, Bool.not_true, eqCol_eq _ (msr_mem h (List.getElem_mem hi))]
  · show laws_eqColS_l0_r a a _ _ _ _ = _
    unfold laws_eqColS_l0_r
    rw [nI_ge, cond_false]

theorem markColS_eq (a : (List (ByteArray × Int × Bool × Bool × Int × Int × ByteArray))) (k : Int) (h : msr (.slice (.pair .str (.pair (.int .i64) (.pair .bool (.pair .bool (.pair (.int .i64) (.pair (.int .i64) .str))))))) a ≤ 1048576) (h0 : 1 ≤ k) (hk : k + (wgt (.slice (.pair .str (.pair (.int .i64) (.pair .bool (.pair .bool (.pair (.int .i64) (.pair (.int .i64) .str))))))) a : Int) ≤ 4294967296) (K : Int → (List (ByteArray × Int × Bool × Bool × Int × Int × ByteArray)) → Res) : laws_markColS a k K = K (k + (wgt (.slice (.pair .str (.pair (.int .i64) (.pair .bool (.pair .bool (.pair (.int .i64) (.pair (.int .i64) .str))))))) a : Int)) (mkL (wgt (.pair .str (.pair (.int .i64) (.pair .bool (.pair .bool (.pair (.int .i64) (.pair (.int .i64) .str))))))) (mk (.pair .str (.pair (.int .i64) (.pair .bool (.pair .bool (.pair (.int .i64) (.pair (.int .i64) .str))))))) a k) := by
  have hl : a.length ≤ 1048576 := msr_len h
  have hwg : wgt (.slice (.pair .str (.pair (.int .i64) (.pair .bool (.pair .bool (.pair (.int .i64) (.pair (.int .i64) .str))))))) a = (a.map (wgt (.pair .str (.pair (.int .i64) (.pair .bool (.pair .bool (.pair (.int .i64) (.pair (.int .i64) .str)))))))).sum := rfl
  rw [hwg] at hk ⊢
  unfold laws_markColS laws_markColS_l3
  have := mark_loop (wgt (.pair .str (.pair (.int .i64) (.pair .bool (.pair .bool (.pair (.int .i64) (.pair (.int .i64) .str))))))) (mk (.pair .str (.pair (.int .i64) (.pair .bool (.pair .bool (.pair (.int .i64) (.pair (.int .i64) .str))))))) a k (fun l k i => (l, k, i)) (step := laws_markColS_l3_s) (fun l k => K k l) (fun l k => K k l) (by unfold LIM; omega) (fun l i rec hi hll hli hla => by
    have e1 := sum_take (wgt (.pair .str (.pair (.int .i64) (.pair .bool (.pair .bool (.pair (.int .i64) (.pair (.int .i64) .str))))))) a i hi
    have e2 := sum_take_le (wgt (.pair .str (.pair (.int .i64) (.pair .bool (.pair .bool (.pair (.int .i64) (.pair (.int .i64) .str))))))) a (i + 1)
    generalize hκ : k + ((((a.take i).map (wgt (.pair .str (.pair (.int .i64) (.pair .bool (.pair .bool (.pair (.int .i64) (.pair (.int .i64) .str)))))))).sum : Nat) : Int) = κ
    have hκ1 : 1 ≤ κ ∧ κ + (wgt (.pair .str (.pair (.int .i64) (.pair .bool (.pair .bool (.pair (.int .i64) (.pair (.int .i64) .str)))))) a[i] : Int) ≤ 4294967296 := by omega
    have hw : (wgt (.pair .str (.pair (.int .i64) (.pair .bool (.pair .bool (.pair (.int .i64) (.pair (.int .i64) .str)))))) a[i] : Int) = 1 + 1 + 1 + 1 + 1 + 1 + 1 := by
      have : wgt (.pair .str (.pair (.int .i64) (.pair .bool (.pair .bool (.pair (.int .i64) (.pair (.int .i64) .str)))))) a[i] = 1 + 1 + 1 + 1 + 1 + 1 + 1 := by first | rfl | (simp only [wgt]; done) | (simp only [wgt]; omega)
      first | rfl | omega
    show laws_markColS_l3_r _ _ _ _ _ = _
    dsimp only
    unfold laws_markColS_l3_r laws_markColS_p0 laws_markColS_p1 laws_markColS_p2
    rw [← hll] at hi
    have hi' : i < a.length := by omega
    simp (disch := first | assumption | omega) only [show nI a.length = nI l.length by rw [hll], nI_lt, inb_nat, upd_len, cond_true, nth_upd, upd_upd, nth_nat, hla, wi64_in, markText_eq, ← hll]
    rw [upd_nat]
    congr 3 <;> first | rfl | omega | skip) (fun l k rec hll => by
    show laws_markColS_l3_r _ _ _ _ _ = _
    dsimp only
    unfold laws_markColS_l3_r laws_markColS_p0 laws_markColS_p1 laws_markColS_p2
    rw [← hll, nI_ge, cond_false])
  exact this

theorem heldColS_eq (a : (List (ByteArray × Int × Bool × Bool × Int × Int × ByteArray))) (k : Int) (h : msr (.slice (.pair .str (.pair (.int .i64) (.pair .bool (.pair .bool (.pair (.int .i64) (.pair (.int .i64) .str))))))) a ≤ 1048576) (h0 : 1 ≤ k) (hk : k + (wgt (.slice (.pair .str (.pair (.int .i64) (.pair .bool (.pair .bool (.pair (.int .i64) (.pair (.int .i64) .str))))))) a : Int) ≤ 4294967296) (K : Int → Res) : laws_heldColS (mkL (wgt (.pair .str (.pair (.int .i64) (.pair .bool (.pair .bool (.pair (.int .i64) (.pair (.int .i64) .str))))))) (mk (.pair .str (.pair (.int .i64) (.pair .bool (.pair .bool (.pair (.int .i64) (.pair (.int .i64) .str))))))) a k) k K = K (k + (wgt (.slice (.pair .str (.pair (.int .i64) (.pair .bool (.pair .bool (.pair (.int .i64) (.pair (.int .i64) .str))))))) a : Int)) := by
  have hl : a.length ≤ 1048576 := msr_len h
  have hwg : wgt (.slice (.pair .str (.pair (.int .i64) (.pair .bool (.pair .bool (.pair (.int .i64) (.pair (.int .i64) .str))))))) a = (a.map (wgt (.pair .str (.pair (.int .i64) (.pair .bool (.pair .bool (.pair (.int .i64) (.pair (.int .i64) .str)))))))).sum := rfl
  rw [hwg] at hk ⊢
  have hll := mkL_len (wgt (.pair .str (.pair (.int .i64) (.pair .bool (.pair .bool (.pair (.int .i64) (.pair (.int .i64) .str))))))) (mk (.pair .str (.pair (.int .i64) (.pair .bool (.pair .bool (.pair (.int .i64) (.pair (.int .i64) .str))))))) a k
  have hg := mkL_get (wgt (.pair .str (.pair (.int .i64) (.pair .bool (.pair .bool (.pair (.int .i64) (.pair (.int .i64) .str))))))) (mk (.pair .str (.pair (.int .i64) (.pair .bool (.pair .bool (.pair (.int .i64) (.pair (.int .i64) .str))))))) a k
  generalize mkL (wgt (.pair .str (.pair (.int .i64) (.pair .bool (.pair .bool (.pair (.int .i64) (.pair (.int .i64) .str))))))) (mk (.pair .str (.pair (.int .i64) (.pair .bool (.pair .bool (.pair (.int .i64) (.pair (.int .i64) .str))))))) a k = l at hll hg
  unfold laws_heldColS laws_heldColS_l0
  have := held_loop (wgt (.pair .str (.pair (.int .i64) (.pair .bool (.pair .bool (.pair (.int .i64) (.pair (.int .i64) .str))))))) a k (fun k i => (k, i)) (step := laws_heldColS_l0_s l) ((fun (k_1 : Int) => K k_1), (fun (_ : Unit) => K (-1))) (fun k => K k) (by unfold LIM; omega) (fun i rec hi => by
    have e1 := sum_take (wgt (.pair .str (.pair (.int .i64) (.pair .bool (.pair .bool (.pair (.int .i64) (.pair (.int .i64) .str))))))) a i hi
    have e2 := sum_take_le (wgt (.pair .str (.pair (.int .i64) (.pair .bool (.pair .bool (.pair (.int .i64) (.pair (.int .i64) .str))))))) a (i + 1)
    have hgi := hg i hi (by omega)
    generalize hκ : k + ((((a.take i).map (wgt (.pair .str (.pair (.int .i64) (.pair .bool (.pair .bool (.pair (.int .i64) (.pair (.int .i64) .str)))))))).sum : Nat) : Int) = κ at hgi
    have hκ1 : 1 ≤ κ ∧ κ + (wgt (.pair .str (.pair (.int .i64) (.pair .bool (.pair .bool (.pair (.int .i64) (.pair (.int .i64) .str)))))) a[i] : Int) ≤ 4294967296 := by omega
    have hw : (wgt (.pair .str (.pair (.int .i64) (.pair .bool (.pair .bool (.pair (.int .i64) (.pair (.int .i64) .str)))))) a[i] : Int) = 1 + 1 + 1 + 1 + 1 + 1 + 1 := by
      have : wgt (.pair .str (.pair (.int .i64) (.pair .bool (.pair .bool (.pair (.int .i64) (.pair (.int .i64) .str)))))) a[i] = 1 + 1 + 1 + 1 + 1 + 1 + 1 := by first | rfl | (simp only [wgt]; done) | (simp only [wgt]; omega)
      first | rfl | omega
    show laws_heldColS_l0_r _ _ _ _ _ _ = _
    dsimp only
    unfold laws_heldColS_l0_r
    have hi' : i < l.length := by omega
    simp (disch := first | assumption | omega) only [nI_lt, inb_nat, cond_true, cond_false, nth_nat, hgi, mk_pair, mk_slice, mk_i64, mk_u8, mk_bool, mk_str, wgt_pair, wgt_int, wgt_bool, wgt_str, Int.natCast_add, Int.natCast_one, ← Int.add_assoc, wi64_in, markText_eq, bne_f, sNe_self, beq_self_eq_true, Bool.not_true, dec_lt_f]
    all_goals (congr 2; omega)) (fun k rec => by
    show laws_heldColS_l0_r _ _ _ _ _ _ = _
    dsimp only
    unfold laws_heldColS_l0_r
    rw [← hll, nI_ge, cond_false])
  exact this
end Go.PI.G
