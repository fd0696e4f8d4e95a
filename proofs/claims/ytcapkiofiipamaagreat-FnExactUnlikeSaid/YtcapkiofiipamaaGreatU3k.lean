/-
  Printed texts and plain laws. No conditions.
-/
import Derived.Test.YtcapkiofiipamaaGreatU3j
import Derived.Test.YtcapkiofiipamaaGreatU3e
import Derived.Test.YtcapkiofiipamaaGreatU3f
import Derived.Test.YtcapkiofiipamaaGreatU3g
import Derived.Test.YtcapkiofiipamaaGreatU3h
set_option linter.unusedVariables false
set_option linter.unusedSimpArgs false
set_option maxRecDepth 10000
namespace Go.PI.G
open Go Go.PI Go.Proofs

theorem toVal_eq (a : Int × Int × ByteArray) (h : msr (.pair (.int .i64) (.pair (.int .i64) .str)) a ≤ 1048576) (k : qV → Res) : laws_toVal a k = k a := by
  unfold laws_toVal
  rfl

theorem szVal_eq (a : Int × Int × ByteArray) (left : Int) (h0 : 0 ≤ left) (h1 : left ≤ 1048576) (hw : Wf (.pair (.int .i64) (.pair (.int .i64) .str)) a) (k : Int → Res) : laws_szVal a left k = k (szR left (msr (.pair (.int .i64) (.pair (.int .i64) .str)) a)) := by
  have hm : msr (.pair (.int .i64) (.pair (.int .i64) .str)) a = ByteArray.size a.2.2 + 0 := by simp only [msr]; omega
  rw [hm]
  unfold laws_szVal
  have hx0 : ByteArray.size a.2.2 ≤ maxLen := hw.2.2
  unfold maxLen at hx0
  rw [wi64_in (by unfold nI; omega)]
  by_cases hb0 : ((ByteArray.size a.2.2 : Nat) : Int) ≤ left
  rotate_left
  · rw [szR_stop hb0, dec_lt_t (by unfold nI; omega), cond_true]
  rw [dec_lt_f (by unfold nI; omega), cond_false, szR_step hb0, show left - nI (ByteArray.size a.2.2) = left - ((ByteArray.size a.2.2 : Nat) : Int) from rfl]
  exact sz_end (by omega)

theorem eqVal_eq (a : Int × Int × ByteArray) (h : msr (.pair (.int .i64) (.pair (.int .i64) .str)) a ≤ 1048576) (k : Bool → Res) : laws_eqVal a a k = k true := by
  unfold laws_eqVal
  simp only [bne_f, sNe_self, beq_self_eq_true, cond_false, Bool.not_true]
end Go.PI.G
namespace Go.PI.G
open Go Go.PI Go.Proofs

theorem toCol_eq (a : ByteArray × Int × Bool × Bool × Int × Int × ByteArray) (h : msr (.pair .str (.pair (.int .i64) (.pair .bool (.pair .bool (.pair (.int .i64) (.pair (.int .i64) .str)))))) a ≤ 1048576) (k : qC → Res) : laws_toCol a k = k a := by
  have h4 : msr (.pair (.int .i64) (.pair (.int .i64) .str)) a.2.2.2.2 ≤ 1048576 := by
    have : msr (.pair (.int .i64) (.pair (.int .i64) .str)) a.2.2.2.2 ≤ msr (.pair .str (.pair (.int .i64) (.pair .bool (.pair .bool (.pair (.int .i64) (.pair (.int .i64) .str)))))) a := by first | exact Nat.le_refl _ | (simp only [msr]; omega)
    omega
  unfold laws_toCol
  simp only [toVal_eq _ h4]

theorem szCol_eq (a : ByteArray × Int × Bool × Bool × Int × Int × ByteArray) (left : Int) (h0 : 0 ≤ left) (h1 : left ≤ 1048576) (hw : Wf (.pair .str (.pair (.int .i64) (.pair .bool (.pair .bool (.pair (.int .i64) (.pair (.int .i64) .str)))))) a) (k : Int → Res) : laws_szCol a left k = k (szR left (msr (.pair .str (.pair (.int .i64) (.pair .bool (.pair .bool (.pair (.int .i64) (.pair (.int .i64) .str)))))) a)) := by
  have hm : msr (.pair .str (.pair (.int .i64) (.pair .bool (.pair .bool (.pair (.int .i64) (.pair (.int .i64) .str)))))) a = ByteArray.size a.1 + (msr (.pair (.int .i64) (.pair (.int .i64) .str)) a.2.2.2.2 + 0) := by simp only [msr]; omega
  rw [hm]
  unfold laws_szCol
  have hx0 : ByteArray.size a.1 ≤ maxLen := hw.1
  unfold maxLen at hx0
  rw [wi64_in (by unfold nI; omega)]
  by_cases hb0 : ((ByteArray.size a.1 : Nat) : Int) ≤ left
  rotate_left
  · rw [szR_stop hb0, dec_lt_t (by unfold nI; omega), cond_true]
  rw [dec_lt_f (by unfold nI; omega), cond_false, szR_step hb0, show left - nI (ByteArray.size a.1) = left - ((ByteArray.size a.1 : Nat) : Int) from rfl]
  rw [szVal_eq _ _ (by omega) (by omega) hw.2.2.2.2]
  by_cases hb1 : ((msr (.pair (.int .i64) (.pair (.int .i64) .str)) a.2.2.2.2 : Nat) : Int) ≤ left - (ByteArray.size a.1 : Nat)
  rotate_left
  · rw [szR_neg hb1, szR_stop hb1, dec_lt_t (by omega), cond_true]
  rw [szR_pos hb1, szR_step hb1, dec_lt_f (by omega), cond_false]
  exact sz_end (by omega)

theorem eqCol_eq (a : ByteArray × Int × Bool × Bool × Int × Int × ByteArray) (h : msr (.pair .str (.pair (.int .i64) (.pair .bool (.pair .bool (.pair (.int .i64) (.pair (.int .i64) .str)))))) a ≤ 1048576) (k : Bool → Res) : laws_eqCol a a k = k true := by
  have h4 : msr (.pair (.int .i64) (.pair (.int .i64) .str)) a.2.2.2.2 ≤ 1048576 := by
    have : msr (.pair (.int .i64) (.pair (.int .i64) .str)) a.2.2.2.2 ≤ msr (.pair .str (.pair (.int .i64) (.pair .bool (.pair .bool (.pair (.int .i64) (.pair (.int .i64) .str)))))) a := by first | exact Nat.le_refl _ | (simp only [msr]; omega)
    omega
  unfold laws_eqCol
  simp only [bne_f, sNe_self, beq_self_eq_true, cond_false, Bool.not_true, eqVal_eq _ h4]
end Go.PI.G
namespace Go.PI.G
open Go Go.PI Go.Proofs

theorem toColS_eq (a : qE) (h : msr (.slice (.pair .str (.pair (.int .i64) (.pair .bool (.pair .bool (.pair (.int .i64) (.pair (.int .i64) .str))))))) a ≤ 1048576) (k : qE → Res) : laws_toColS a k = k a := by
  have hl : a.length ≤ 1048576 := msr_len h
  unfold laws_toColS
  rw [mkOk_of (by unfold LIM; omega), cond_true]
  have := to_loop ((eS, 0, false, false, 0, 0, eS)) a id (step := laws_toColS_l0_s a) (fun out => k out) (by unfold LIM; omega) (fun out i rec hi hlo => by
    show laws_toColS_l0_r a _ _ _ _ = _
    unfold laws_toColS_l0_r
    dsimp only
    simp only [nI_lt hi, cond_true, inb_nat hi, inb_nat (show i < out.length by omega), nth_nat _ _ _ hi, upd_nat, wi64_in (n := (i : Int) + 1) (by omega), toCol_eq _ (msr_mem h (List.getElem_mem hi))]
    rfl) (fun out rec => by
    show laws_toColS_l0_r a _ _ _ _ = _
    unfold laws_toColS_l0_r
    dsimp only
    rw [nI_ge, cond_false])
  rw [List.map_id] at this
  exact this

theorem szColS_eq (a : qE) (left : Int) (h0 : 0 ≤ left) (h1 : left ≤ 1048576) (hw : Wf (.slice (.pair .str (.pair (.int .i64) (.pair .bool (.pair .bool (.pair (.int .i64) (.pair (.int .i64) .str))))))) a) (k : Int → Res) : laws_szColS a left k = k (szR left (msr (.slice (.pair .str (.pair (.int .i64) (.pair .bool (.pair .bool (.pair (.int .i64) (.pair (.int .i64) .str))))))) a)) := by
  have hl : a.length ≤ maxLen := hw.1
  have hm : msr (.slice (.pair .str (.pair (.int .i64) (.pair .bool (.pair .bool (.pair (.int .i64) (.pair (.int .i64) .str))))))) a = a.length + (a.map (msr (.pair .str (.pair (.int .i64) (.pair .bool (.pair .bool (.pair (.int .i64) (.pair (.int .i64) .str)))))))).sum := rfl
  rw [hm]
  unfold laws_szColS
  refine sz_str (F := fun q => laws_szColS_l0 a FUEL q 0 (fun left1 => k left1) (fun _ => k (-1))) (k := k) h0 h1 hl fun hb => ?_
  unfold laws_szColS_l0
  rw [sz_loop (msr (.pair .str (.pair (.int .i64) (.pair .bool (.pair .bool (.pair (.int .i64) (.pair (.int .i64) .str))))))) a _ (by omega) (fun left i rec hi h0 h1 => ?_) (fun left rec => ?_) _ (by omega) (by omega)]
  · by_cases hb : (((a.map (msr (.pair .str (.pair (.int .i64) (.pair .bool (.pair .bool (.pair (.int .i64) (.pair (.int .i64) .str)))))))).sum : Nat) : Int) ≤ left - a.length
    · rw [if_pos hb, szR_pos hb]
    · rw [if_neg hb, szR_neg hb]
  · show laws_szColS_l0_r a _ _ _ _ _ = _
    have hx := hw.2 _ (List.getElem_mem hi)
    unfold laws_szColS_l0_r
    rw [nI_lt hi, cond_true, inb_nat hi, cond_true, nth_nat _ _ _ hi, szCol_eq _ _ h0 h1 hx]
    have hi9 : (i : Int) < 4611686018427387904 := by unfold maxLen at hl; omega
    rw [wi64_in (n := (i : Int) + 1) (by omega)]
    by_cases hb : ((msr (.pair .str (.pair (.int .i64) (.pair .bool (.pair .bool (.pair (.int .i64) (.pair (.int .i64) .str)))))) a[i] : Nat) : Int) ≤ left
    · rw [if_pos hb, szR_pos hb, dec_lt_f (by omega), cond_false]
    · rw [if_neg hb, szR_neg hb, dec_lt_t (by omega), cond_true]
  · show laws_szColS_l0_r a _ _ _ _ _ = _
    unfold laws_szColS_l0_r
    rw [nI_ge, cond_false]

theorem eqColS_eq (a : qE) (h : msr (.slice (.pair .str (.pair (.int .i64) (.pair .bool (.pair .bool (.pair (.int .i64) (.pair (.int .i64) .str))))))) a ≤ 1048576) (k : Bool → Res) : laws_eqColS a a k = k true := by
  have hl : a.length ≤ 1048576 := msr_len h
  unfold laws_eqColS
  rw [bne_f, cond_false]
  unfold laws_eqColS_l0
  rw [eq_loop a _ (by unfold LIM; omega) (fun i rec hi => ?_) (fun rec => ?_)]
  · show laws_eqColS_l0_r a a _ _ _ _ = _
    unfold laws_eqColS_l0_r
    simp only [nI_lt hi, cond_true, inb_nat hi, nth_nat _ _ _ hi, wi64_in (n := (i : Int) + 1) (by omega), bne_f, sNe_self, cond_false, Bool.not_true, eqCol_eq _ (msr_mem h (List.getElem_mem hi))]
  · show laws_eqColS_l0_r a a _ _ _ _ = _
    unfold laws_eqColS_l0_r
    rw [nI_ge, cond_false]

theorem markColS_eq (a : qE) (k : Int) (h : msr (.slice (.pair .str (.pair (.int .i64) (.pair .bool (.pair .bool (.pair (.int .i64) (.pair (.int .i64) .str))))))) a ≤ 1048576) (h0 : 1 ≤ k) (hk : k + (wgt (.slice (.pair .str (.pair (.int .i64) (.pair .bool (.pair .bool (.pair (.int .i64) (.pair (.int .i64) .str))))))) a : Int) ≤ 4294967296) (K : Int → qE → Res) : laws_markColS a k K = K (k + (wgt (.slice (.pair .str (.pair (.int .i64) (.pair .bool (.pair .bool (.pair (.int .i64) (.pair (.int .i64) .str))))))) a : Int)) (mkL (wgt (.pair .str (.pair (.int .i64) (.pair .bool (.pair .bool (.pair (.int .i64) (.pair (.int .i64) .str))))))) (mk (.pair .str (.pair (.int .i64) (.pair .bool (.pair .bool (.pair (.int .i64) (.pair (.int .i64) .str))))))) a k) := by
  have hl : a.length ≤ 1048576 := msr_len h
  have hwg : wgt (.slice (.pair .str (.pair (.int .i64) (.pair .bool (.pair .bool (.pair (.int .i64) (.pair (.int .i64) .str))))))) a = (a.map (wgt (.pair .str (.pair (.int .i64) (.pair .bool (.pair .bool (.pair (.int .i64) (.pair (.int .i64) .str)))))))).sum := rfl
  rw [hwg] at hk ⊢
  unfold laws_markColS laws_markColS_l3
  have := mark_loop (wgt (.pair .str (.pair (.int .i64) (.pair .bool (.pair .bool (.pair (.int .i64) (.pair (.int .i64) .str))))))) (mk (.pair .str (.pair (.int .i64) (.pair .bool (.pair .bool (.pair (.int .i64) (.pair (.int .i64) .str))))))) a k (fun l k i => (l, k, i)) (step := laws_markColS_l3_s) (fun l k => K k l) (fun l k => K k l) (by unfold LIM; omega) (fun l i rec hi hll hli hla => by
    have e1 := sum_take (wgt (.pair .str (.pair (.int .i64) (.pair .bool (.pair .bool (.pair (.int .i64) (.pair (.int .i64) .str))))))) a i hi
    have e2 := sum_take_le (wgt (.pair .str (.pair (.int .i64) (.pair .bool (.pair .bool (.pair (.int .i64) (.pair (.int .i64) .str))))))) a (i + 1)
    generalize hκ : k + ((((a.take i).map (wgt (.pair .str (.pair (.int .i64) (.pair .bool (.pair .bool (.pair (.int .i64) (.pair (.int .i64) .str)))))))).sum : Nat) : Int) = κ
    have hκ1 : 1 ≤ κ ∧ κ + (wgt (.pair .str (.pair (.int .i64) (.pair .bool (.pair .bool (.pair (.int .i64) (.pair (.int .i64) .str)))))) a[i] : Int) ≤ 4294967296 := by omega
    have hw : (wgt (.pair .str (.pair (.int .i64) (.pair .bool (.pair .bool (.pair (.int .i64) (.pair (.int .i64) .str)))))) a[i] : Int) = 1 + 1 + 1 + 1 + 1 + 1 + 1 := by
      have : wgt (.pair .str (.pair (.int .i64) (.pair .bool (.pair .bool (.pair (.int .i64) (.pair (.int .i64) .str)))))) a[i] = 1 + 1 + 1 + 1 + 1 + 1 + 1 := by first | rfl | (simp only [wgt]; done) | (simp only [wgt]; omega)
      first | rfl | omega
    show laws_markColS_l3_r _ _ _ _ _ = _
    dsimp only
    unfold laws_markColS_l3_r laws_markColS_p0 laws_markColS_p1 laws_markColS_p2
    rw [← hll] at hi
    have hi' : i < a.length := by omega
    simp (disch := first | assumption | omega) only [show nI a.length = nI l.length by rw [hll], nI_lt, inb_nat, upd_len, cond_true, nth_upd, upd_upd, nth_nat, hla, wi64_in, markText_eq, ← hll]
    rw [upd_nat]
    congr 3 <;> first | rfl | omega | skip) (fun l k rec hll => by
    show laws_markColS_l3_r _ _ _ _ _ = _
    dsimp only
    unfold laws_markColS_l3_r laws_markColS_p0 laws_markColS_p1 laws_markColS_p2
    rw [← hll, nI_ge, cond_false])
  exact this
end Go.PI.G
namespace Go.PI.G
open Go Go.PI Go.Proofs

theorem toStringS_eq (a : (List ByteArray)) (h : msr (.slice .str) a ≤ 1048576) (k : (List ByteArray) → Res) : laws_toStringS a k = k a := by
  have hl : a.length ≤ 1048576 := msr_len h
  unfold laws_toStringS
  rw [mkOk_of (by unfold LIM; omega), cond_true]
  have := to_loop (eS) a id (step := laws_toStringS_l0_s a) (fun out => k out) (by unfold LIM; omega) (fun out i rec hi hlo => by
    show laws_toStringS_l0_r a _ _ _ _ = _
    unfold laws_toStringS_l0_r
    dsimp only
    simp only [nI_lt hi, cond_true, inb_nat hi, inb_nat (show i < out.length by omega), nth_nat _ _ _ hi, upd_nat, wi64_in (n := (i : Int) + 1) (by omega)]
    rfl) (fun out rec => by
    show laws_toStringS_l0_r a _ _ _ _ = _
    unfold laws_toStringS_l0_r
    dsimp only
    rw [nI_ge, cond_false])
  rw [List.map_id] at this
  exact this

theorem szStringS_eq (a : (List ByteArray)) (left : Int) (h0 : 0 ≤ left) (h1 : left ≤ 1048576) (hw : Wf (.slice .str) a) (k : Int → Res) : laws_szStringS a left k = k (szR left (msr (.slice .str) a)) := by
  have hl : a.length ≤ maxLen := hw.1
  have hm : msr (.slice .str) a = a.length + (a.map (msr .str)).sum := rfl
  rw [hm]
  unfold laws_szStringS
  refine sz_str (F := fun q => laws_szStringS_l0 a FUEL q 0 (fun left1 => k left1) (fun _ => k (-1))) (k := k) h0 h1 hl fun hb => ?_
  unfold laws_szStringS_l0
  rw [sz_loop (msr .str) a _ (by omega) (fun left i rec hi h0 h1 => ?_) (fun left rec => ?_) _ (by omega) (by omega)]
  · by_cases hb : (((a.map (msr .str)).sum : Nat) : Int) ≤ left - a.length
    · rw [if_pos hb, szR_pos hb]
    · rw [if_neg hb, szR_neg hb]
  · show laws_szStringS_l0_r a _ _ _ _ _ = _
    have hx := hw.2 _ (List.getElem_mem hi)
    unfold laws_szStringS_l0_r
    have hx : a[i].size ≤ maxLen := hx
    unfold maxLen at hx hl
    rw [nI_lt hi, cond_true, inb_nat hi, cond_true, nth_nat _ _ _ hi, wi64_in (n := left - nI a[i].size) (by unfold nI; omega), wi64_in (n := (i : Int) + 1) (by omega)]
    unfold nI
    by_cases hb : ((msr .str a[i] : Nat) : Int) ≤ left
    · have hb' : (a[i].size : Int) ≤ left := hb
      rw [if_pos hb, dec_lt_f (by omega), cond_false]; rfl
    · have hb' : ¬ (a[i].size : Int) ≤ left := hb
      rw [if_neg hb, dec_lt_t (by omega), cond_true]
  · show laws_szStringS_l0_r a _ _ _ _ _ = _
    unfold laws_szStringS_l0_r
    rw [nI_ge, cond_false]

theorem eqStringS_eq (a : (List ByteArray)) (h : msr (.slice .str) a ≤ 1048576) (k : Bool → Res) : laws_eqStringS a a k = k true := by
  have hl : a.length ≤ 1048576 := msr_len h
  unfold laws_eqStringS
  rw [bne_f, cond_false]
  unfold laws_eqStringS_l0
  rw [eq_loop a _ (by unfold LIM; omega) (fun i rec hi => ?_) (fun rec => ?_)]
  · show laws_eqStringS_l0_r a a _ _ _ _ = _
    unfold laws_eqStringS_l0_r
    simp only [nI_lt hi, cond_true, inb_nat hi, nth_nat _ _ _ hi, wi64_in (n := (i : Int) + 1) (by omega), bne_f, sNe_self, cond_false, Bool.not_true]
  · show laws_eqStringS_l0_r a a _ _ _ _ = _
    unfold laws_eqStringS_l0_r
    rw [nI_ge, cond_false]

theorem markStringS_eq (a : (List ByteArray)) (k : Int) (h : msr (.slice .str) a ≤ 1048576) (h0 : 1 ≤ k) (hk : k + (wgt (.slice .str) a : Int) ≤ 4294967296) (K : Int → (List ByteArray) → Res) : laws_markStringS a k K = K (k + (wgt (.slice .str) a : Int)) (mkL (wgt .str) (mk .str) a k) := by
  have hl : a.length ≤ 1048576 := msr_len h
  have hwg : wgt (.slice .str) a = (a.map (wgt .str)).sum := rfl
  rw [hwg] at hk ⊢
  unfold laws_markStringS laws_markStringS_l0
  have := mark_loop (wgt .str) (mk .str) a k (fun l k i => (l, k, i)) (step := laws_markStringS_l0_s) (fun l k => K k l) (fun l k => K k l) (by unfold LIM; omega) (fun l i rec hi hll hli hla => by
    have e1 := sum_take (wgt .str) a i hi
    have e2 := sum_take_le (wgt .str) a (i + 1)
    generalize hκ : k + ((((a.take i).map (wgt .str)).sum : Nat) : Int) = κ
    have hκ1 : 1 ≤ κ ∧ κ + (wgt .str a[i] : Int) ≤ 4294967296 := by omega
    have hw : (wgt .str a[i] : Int) = 1 := by
      have : wgt .str a[i] = 1 := by first | rfl | (simp only [wgt]; done) | (simp only [wgt]; omega)
      first | rfl | omega
    show laws_markStringS_l0_r _ _ _ _ _ = _
    dsimp only
    unfold laws_markStringS_l0_r
    rw [← hll] at hi
    have hi' : i < a.length := by omega
    simp (disch := first | assumption | omega) only [show nI a.length = nI l.length by rw [hll], nI_lt, inb_nat, upd_len, cond_true, nth_upd, upd_upd, nth_nat, hla, wi64_in, markText_eq, ← hll]
    rw [upd_nat]
    congr 3 <;> first | rfl | omega | skip) (fun l k rec hll => by
    show laws_markStringS_l0_r _ _ _ _ _ = _
    dsimp only
    unfold laws_markStringS_l0_r
    rw [← hll, nI_ge, cond_false])
  exact this

theorem heldStringS_eq (a : (List ByteArray)) (k : Int) (h : msr (.slice .str) a ≤ 1048576) (h0 : 1 ≤ k) (hk : k + (wgt (.slice .str) a : Int) ≤ 4294967296) (K : Int → Res) : laws_heldStringS (mkL (wgt .str) (mk .str) a k) k K = K (k + (wgt (.slice .str) a : Int)) := by
  have hl : a.length ≤ 1048576 := msr_len h
  have hwg : wgt (.slice .str) a = (a.map (wgt .str)).sum := rfl
  rw [hwg] at hk ⊢
  have hll := mkL_len (wgt .str) (mk .str) a k
  have hg := mkL_get (wgt .str) (mk .str) a k
  generalize mkL (wgt .str) (mk .str) a k = l at hll hg
  unfold laws_heldStringS laws_heldStringS_l0
  have := held_loop (wgt .str) a k (fun k i => (k, i)) (step := laws_heldStringS_l0_s l) ((fun (k_1 : Int) => K k_1), (fun (_ : Unit) => K (-1))) (fun k => K k) (by unfold LIM; omega) (fun i rec hi => by
    have e1 := sum_take (wgt .str) a i hi
    have e2 := sum_take_le (wgt .str) a (i + 1)
    have hgi := hg i hi (by omega)
    generalize hκ : k + ((((a.take i).map (wgt .str)).sum : Nat) : Int) = κ at hgi
    have hκ1 : 1 ≤ κ ∧ κ + (wgt .str a[i] : Int) ≤ 4294967296 := by omega
    have hw : (wgt .str a[i] : Int) = 1 := by
      have : wgt .str a[i] = 1 := by first | rfl | (simp only [wgt]; done) | (simp only [wgt]; omega)
      first | rfl | omega
    show laws_heldStringS_l0_r _ _ _ _ _ _ = _
    dsimp only
    unfold laws_heldStringS_l0_r
    have hi' : i < l.length := by omega
    simp (disch := first | assumption | omega) only [nI_lt, inb_nat, cond_true, cond_false, nth_nat, hgi, mk_pair, mk_slice, mk_i64, mk_u8, mk_bool, mk_str, wgt_pair, wgt_int, wgt_bool, wgt_str, Int.natCast_add, Int.natCast_one, ← Int.add_assoc, wi64_in, markText_eq, bne_f, sNe_self, beq_self_eq_true, Bool.not_true, dec_lt_f]
    all_goals (congr 2; omega)) (fun k rec => by
    show laws_heldStringS_l0_r _ _ _ _ _ _ = _
    dsimp only
    unfold laws_heldStringS_l0_r
    rw [← hll, nI_ge, cond_false])
  exact this
end Go.PI.G
namespace Go.PI.G
open Go Go.PI Go.Proofs

theorem toTable_eq (a : ByteArray × qE × List ByteArray) (h : msr (.pair .str (.pair (.slice (.pair .str (.pair (.int .i64) (.pair .bool (.pair .bool (.pair (.int .i64) (.pair (.int .i64) .str))))))) (.slice .str))) a ≤ 1048576) (k : qT → Res) : laws_toTable a k = k a := by
  have h1 : msr (.slice (.pair .str (.pair (.int .i64) (.pair .bool (.pair .bool (.pair (.int .i64) (.pair (.int .i64) .str))))))) a.2.1 ≤ 1048576 := by
    have : msr (.slice (.pair .str (.pair (.int .i64) (.pair .bool (.pair .bool (.pair (.int .i64) (.pair (.int .i64) .str))))))) a.2.1 ≤ msr (.pair .str (.pair (.slice (.pair .str (.pair (.int .i64) (.pair .bool (.pair .bool (.pair (.int .i64) (.pair (.int .i64) .str))))))) (.slice .str))) a := by first | exact Nat.le_refl _ | (simp only [msr]; omega)
    omega
  have h2 : msr (.slice .str) a.2.2 ≤ 1048576 := by
    have : msr (.slice .str) a.2.2 ≤ msr (.pair .str (.pair (.slice (.pair .str (.pair (.int .i64) (.pair .bool (.pair .bool (.pair (.int .i64) (.pair (.int .i64) .str))))))) (.slice .str))) a := by first | exact Nat.le_refl _ | (simp only [msr]; omega)
    omega
  unfold laws_toTable
  simp only [toColS_eq _ h1, toStringS_eq _ h2]

theorem szTable_eq (a : ByteArray × qE × List ByteArray) (left : Int) (h0 : 0 ≤ left) (h1 : left ≤ 1048576) (hw : Wf (.pair .str (.pair (.slice (.pair .str (.pair (.int .i64) (.pair .bool (.pair .bool (.pair (.int .i64) (.pair (.int .i64) .str))))))) (.slice .str))) a) (k : Int → Res) : laws_szTable a left k = k (szR left (msr (.pair .str (.pair (.slice (.pair .str (.pair (.int .i64) (.pair .bool (.pair .bool (.pair (.int .i64) (.pair (.int .i64) .str))))))) (.slice .str))) a)) := by
  have hm : msr (.pair .str (.pair (.slice (.pair .str (.pair (.int .i64) (.pair .bool (.pair .bool (.pair (.int .i64) (.pair (.int .i64) .str))))))) (.slice .str))) a = ByteArray.size a.1 + (msr (.slice (.pair .str (.pair (.int .i64) (.pair .bool (.pair .bool (.pair (.int .i64) (.pair (.int .i64) .str))))))) a.2.1 + (msr (.slice .str) a.2.2 + 0)) := by simp only [msr]; omega
  rw [hm]
  unfold laws_szTable
  have hx0 : ByteArray.size a.1 ≤ maxLen := hw.1
  unfold maxLen at hx0
  rw [wi64_in (by unfold nI; omega)]
  by_cases hb0 : ((ByteArray.size a.1 : Nat) : Int) ≤ left
  rotate_left
  · rw [szR_stop hb0, dec_lt_t (by unfold nI; omega), cond_true]
  rw [dec_lt_f (by unfold nI; omega), cond_false, szR_step hb0, show left - nI (ByteArray.size a.1) = left - ((ByteArray.size a.1 : Nat) : Int) from rfl]
  rw [szColS_eq _ _ (by omega) (by omega) hw.2.1]
  by_cases hb1 : ((msr (.slice (.pair .str (.pair (.int .i64) (.pair .bool (.pair .bool (.pair (.int .i64) (.pair (.int .i64) .str))))))) a.2.1 : Nat) : Int) ≤ left - (ByteArray.size a.1 : Nat)
  rotate_left
  · rw [szR_neg hb1, szR_stop hb1, dec_lt_t (by omega), cond_true]
  rw [szR_pos hb1, szR_step hb1, dec_lt_f (by omega), cond_false]
  rw [szStringS_eq _ _ (by omega) (by omega) hw.2.2]
  by_cases hb2 : ((msr (.slice .str) a.2.2 : Nat) : Int) ≤ left - (ByteArray.size a.1 : Nat) - (msr (.slice (.pair .str (.pair (.int .i64) (.pair .bool (.pair .bool (.pair (.int .i64) (.pair (.int .i64) .str))))))) a.2.1 : Nat)
  rotate_left
  · rw [szR_neg hb2, szR_stop hb2, dec_lt_t (by omega), cond_true]
  rw [szR_pos hb2, szR_step hb2, dec_lt_f (by omega), cond_false]
  exact sz_end (by omega)

theorem eqTable_eq (a : ByteArray × qE × List ByteArray) (h : msr (.pair .str (.pair (.slice (.pair .str (.pair (.int .i64) (.pair .bool (.pair .bool (.pair (.int .i64) (.pair (.int .i64) .str))))))) (.slice .str))) a ≤ 1048576) (k : Bool → Res) : laws_eqTable a a k = k true := by
  have h1 : msr (.slice (.pair .str (.pair (.int .i64) (.pair .bool (.pair .bool (.pair (.int .i64) (.pair (.int .i64) .str))))))) a.2.1 ≤ 1048576 := by
    have : msr (.slice (.pair .str (.pair (.int .i64) (.pair .bool (.pair .bool (.pair (.int .i64) (.pair (.int .i64) .str))))))) a.2.1 ≤ msr (.pair .str (.pair (.slice (.pair .str (.pair (.int .i64) (.pair .bool (.pair .bool (.pair (.int .i64) (.pair (.int .i64) .str))))))) (.slice .str))) a := by first | exact Nat.le_refl _ | (simp only [msr]; omega)
    omega
  have h2 : msr (.slice .str) a.2.2 ≤ 1048576 := by
    have : msr (.slice .str) a.2.2 ≤ msr (.pair .str (.pair (.slice (.pair .str (.pair (.int .i64) (.pair .bool (.pair .bool (.pair (.int .i64) (.pair (.int .i64) .str))))))) (.slice .str))) a := by first | exact Nat.le_refl _ | (simp only [msr]; omega)
    omega
  unfold laws_eqTable
  simp only [bne_f, sNe_self, beq_self_eq_true, cond_false, Bool.not_true, eqColS_eq _ h1, eqStringS_eq _ h2]
end Go.PI.G
namespace Go.PI.G
open Go Go.PI Go.Proofs

theorem toTableS_eq (a : qF) (h : msr (.slice (.pair .str (.pair (.slice (.pair .str (.pair (.int .i64) (.pair .bool (.pair .bool (.pair (.int .i64) (.pair (.int .i64) .str))))))) (.slice .str)))) a ≤ 1048576) (k : qF → Res) : laws_toTableS a k = k a := by
  have hl : a.length ≤ 1048576 := msr_len h
  unfold laws_toTableS
  rw [mkOk_of (by unfold LIM; omega), cond_true]
  have := to_loop ((eS, [], [])) a id (step := laws_toTableS_l0_s a) (fun out => k out) (by unfold LIM; omega) (fun out i rec hi hlo => by
    show laws_toTableS_l0_r a _ _ _ _ = _
    unfold laws_toTableS_l0_r
    dsimp only
    simp only [nI_lt hi, cond_true, inb_nat hi, inb_nat (show i < out.length by omega), nth_nat _ _ _ hi, upd_nat, wi64_in (n := (i : Int) + 1) (by omega), toTable_eq _ (msr_mem h (List.getElem_mem hi))]
    rfl) (fun out rec => by
    show laws_toTableS_l0_r a _ _ _ _ = _
    unfold laws_toTableS_l0_r
    dsimp only
    rw [nI_ge, cond_false])
  rw [List.map_id] at this
  exact this

theorem szTableS_eq (a : qF) (left : Int) (h0 : 0 ≤ left) (h1 : left ≤ 1048576) (hw : Wf (.slice (.pair .str (.pair (.slice (.pair .str (.pair (.int .i64) (.pair .bool (.pair .bool (.pair (.int .i64) (.pair (.int .i64) .str))))))) (.slice .str)))) a) (k : Int → Res) : laws_szTableS a left k = k (szR left (msr (.slice (.pair .str (.pair (.slice (.pair .str (.pair (.int .i64) (.pair .bool (.pair .bool (.pair (.int .i64) (.pair (.int .i64) .str))))))) (.slice .str)))) a)) := by
  have hl : a.length ≤ maxLen := hw.1
  have hm : msr (.slice (.pair .str (.pair (.slice (.pair .str (.pair (.int .i64) (.pair .bool (.pair .bool (.pair (.int .i64) (.pair (.int .i64) .str))))))) (.slice .str)))) a = a.length + (a.map (msr (.pair .str (.pair (.slice (.pair .str (.pair (.int .i64) (.pair .bool (.pair .bool (.pair (.int .i64) (.pair (.int .i64) .str))))))) (.slice .str))))).sum := rfl
  rw [hm]
  unfold laws_szTableS
  refine sz_str (F := fun q => laws_szTableS_l0 a FUEL q 0 (fun left1 => k left1) (fun _ => k (-1))) (k := k) h0 h1 hl fun hb => ?_
  unfold laws_szTableS_l0
  rw [sz_loop (msr (.pair .str (.pair (.slice (.pair .str (.pair (.int .i64) (.pair .bool (.pair .bool (.pair (.int .i64) (.pair (.int .i64) .str))))))) (.slice .str)))) a _ (by omega) (fun left i rec hi h0 h1 => ?_) (fun left rec => ?_) _ (by omega) (by omega)]
  · by_cases hb : (((a.map (msr (.pair .str (.pair (.slice (.pair .str (.pair (.int .i64) (.pair .bool (.pair .bool (.pair (.int .i64) (.pair (.int .i64) .str))))))) (.slice .str))))).sum : Nat) : Int) ≤ left - a.length
    · rw [if_pos hb, szR_pos hb]
    · rw [if_neg hb, szR_neg hb]
  · show laws_szTableS_l0_r a _ _ _ _ _ = _
    have hx := hw.2 _ (List.getElem_mem hi)
    unfold laws_szTableS_l0_r
    rw [nI_lt hi, cond_true, inb_nat hi, cond_true, nth_nat _ _ _ hi, szTable_eq _ _ h0 h1 hx]
    have hi9 : (i : Int) < 4611686018427387904 := by unfold maxLen at hl; omega
    rw [wi64_in (n := (i : Int) + 1) (by omega)]
    by_cases hb : ((msr (.pair .str (.pair (.slice (.pair .str (.pair (.int .i64) (.pair .bool (.pair .bool (.pair (.int .i64) (.pair (.int .i64) .str))))))) (.slice .str))) a[i] : Nat) : Int) ≤ left
    · rw [if_pos hb, szR_pos hb, dec_lt_f (by omega), cond_false]
    · rw [if_neg hb, szR_neg hb, dec_lt_t (by omega), cond_true]
  · show laws_szTableS_l0_r a _ _ _ _ _ = _
    unfold laws_szTableS_l0_r
    rw [nI_ge, cond_false]

theorem eqTableS_eq (a : qF) (h : msr (.slice (.pair .str (.pair (.slice (.pair .str (.pair (.int .i64) (.pair .bool (.pair .bool (.pair (.int .i64) (.pair (.int .i64) .str))))))) (.slice .str)))) a ≤ 1048576) (k : Bool → Res) : laws_eqTableS a a k = k true := by
  have hl : a.length ≤ 1048576 := msr_len h
  unfold laws_eqTableS
  rw [bne_f, cond_false]
  unfold laws_eqTableS_l0
  rw [eq_loop a _ (by unfold LIM; omega) (fun i rec hi => ?_) (fun rec => ?_)]
  · show laws_eqTableS_l0_r a a _ _ _ _ = _
    unfold laws_eqTableS_l0_r
    simp only [nI_lt hi, cond_true, inb_nat hi, nth_nat _ _ _ hi, wi64_in (n := (i : Int) + 1) (by omega), bne_f, sNe_self, cond_false, Bool.not_true, eqTable_eq _ (msr_mem h (List.getElem_mem hi))]
  · show laws_eqTableS_l0_r a a _ _ _ _ = _
    unfold laws_eqTableS_l0_r
    rw [nI_ge, cond_false]

theorem markTableS_eq (a : qF) (k : Int) (h : msr (.slice (.pair .str (.pair (.slice (.pair .str (.pair (.int .i64) (.pair .bool (.pair .bool (.pair (.int .i64) (.pair (.int .i64) .str))))))) (.slice .str)))) a ≤ 1048576) (h0 : 1 ≤ k) (hk : k + (wgt (.slice (.pair .str (.pair (.slice (.pair .str (.pair (.int .i64) (.pair .bool (.pair .bool (.pair (.int .i64) (.pair (.int .i64) .str))))))) (.slice .str)))) a : Int) ≤ 4294967296) (K : Int → qF → Res) : laws_markTableS a k K = K (k + (wgt (.slice (.pair .str (.pair (.slice (.pair .str (.pair (.int .i64) (.pair .bool (.pair .bool (.pair (.int .i64) (.pair (.int .i64) .str))))))) (.slice .str)))) a : Int)) (mkL (wgt (.pair .str (.pair (.slice (.pair .str (.pair (.int .i64) (.pair .bool (.pair .bool (.pair (.int .i64) (.pair (.int .i64) .str))))))) (.slice .str)))) (mk (.pair .str (.pair (.slice (.pair .str (.pair (.int .i64) (.pair .bool (.pair .bool (.pair (.int .i64) (.pair (.int .i64) .str))))))) (.slice .str)))) a k) := by
  have hl : a.length ≤ 1048576 := msr_len h
  have hwg : wgt (.slice (.pair .str (.pair (.slice (.pair .str (.pair (.int .i64) (.pair .bool (.pair .bool (.pair (.int .i64) (.pair (.int .i64) .str))))))) (.slice .str)))) a = (a.map (wgt (.pair .str (.pair (.slice (.pair .str (.pair (.int .i64) (.pair .bool (.pair .bool (.pair (.int .i64) (.pair (.int .i64) .str))))))) (.slice .str))))).sum := rfl
  rw [hwg] at hk ⊢
  unfold laws_markTableS laws_markTableS_l0
  have := mark_loop (wgt (.pair .str (.pair (.slice (.pair .str (.pair (.int .i64) (.pair .bool (.pair .bool (.pair (.int .i64) (.pair (.int .i64) .str))))))) (.slice .str)))) (mk (.pair .str (.pair (.slice (.pair .str (.pair (.int .i64) (.pair .bool (.pair .bool (.pair (.int .i64) (.pair (.int .i64) .str))))))) (.slice .str)))) a k (fun l k i => (l, k, i)) (step := laws_markTableS_l0_s) (fun l k => K k l) (fun l k => K k l) (by unfold LIM; omega) (fun l i rec hi hll hli hla => by
    have e1 := sum_take (wgt (.pair .str (.pair (.slice (.pair .str (.pair (.int .i64) (.pair .bool (.pair .bool (.pair (.int .i64) (.pair (.int .i64) .str))))))) (.slice .str)))) a i hi
    have e2 := sum_take_le (wgt (.pair .str (.pair (.slice (.pair .str (.pair (.int .i64) (.pair .bool (.pair .bool (.pair (.int .i64) (.pair (.int .i64) .str))))))) (.slice .str)))) a (i + 1)
    generalize hκ : k + ((((a.take i).map (wgt (.pair .str (.pair (.slice (.pair .str (.pair (.int .i64) (.pair .bool (.pair .bool (.pair (.int .i64) (.pair (.int .i64) .str))))))) (.slice .str))))).sum : Nat) : Int) = κ
    have hκ1 : 1 ≤ κ ∧ κ + (wgt (.pair .str (.pair (.slice (.pair .str (.pair (.int .i64) (.pair .bool (.pair .bool (.pair (.int .i64) (.pair (.int .i64) .str))))))) (.slice .str))) a[i] : Int) ≤ 4294967296 := by omega
    have hw : (wgt (.pair .str (.pair (.slice (.pair .str (.pair (.int .i64) (.pair .bool (.pair .bool (.pair (.int .i64) (.pair (.int .i64) .str))))))) (.slice .str))) a[i] : Int) = 1 + (wgt (.slice (.pair .str (.pair (.int .i64) (.pair .bool (.pair .bool (.pair (.int .i64) (.pair (.int .i64) .str))))))) a[i].2.1 : Int) + (wgt (.slice .str) a[i].2.2 : Int) := by
      have : wgt (.pair .str (.pair (.slice (.pair .str (.pair (.int .i64) (.pair .bool (.pair .bool (.pair (.int .i64) (.pair (.int .i64) .str))))))) (.slice .str))) a[i] = 1 + (wgt (.slice (.pair .str (.pair (.int .i64) (.pair .bool (.pair .bool (.pair (.int .i64) (.pair (.int .i64) .str))))))) a[i].2.1) + (wgt (.slice .str) a[i].2.2) := by first | rfl | (simp only [wgt]; done) | (simp only [wgt]; omega)
      first | rfl | omega
    have hr0 : msr (.slice (.pair .str (.pair (.int .i64) (.pair .bool (.pair .bool (.pair (.int .i64) (.pair (.int .i64) .str))))))) a[i].2.1 ≤ 1048576 := by
      have q1 := msr_mem h (List.getElem_mem hi)
      have q2 : msr (.slice (.pair .str (.pair (.int .i64) (.pair .bool (.pair .bool (.pair (.int .i64) (.pair (.int .i64) .str))))))) a[i].2.1 ≤ msr (.pair .str (.pair (.slice (.pair .str (.pair (.int .i64) (.pair .bool (.pair .bool (.pair (.int .i64) (.pair (.int .i64) .str))))))) (.slice .str))) a[i] := by first | exact Nat.le_refl _ | (simp only [msr]; omega)
      omega
    have hr1 : msr (.slice .str) a[i].2.2 ≤ 1048576 := by
      have q1 := msr_mem h (List.getElem_mem hi)
      have q2 : msr (.slice .str) a[i].2.2 ≤ msr (.pair .str (.pair (.slice (.pair .str (.pair (.int .i64) (.pair .bool (.pair .bool (.pair (.int .i64) (.pair (.int .i64) .str))))))) (.slice .str))) a[i] := by first | exact Nat.le_refl _ | (simp only [msr]; omega)
      omega
    show laws_markTableS_l0_r _ _ _ _ _ = _
    dsimp only
    unfold laws_markTableS_l0_r
    rw [← hll] at hi
    have hi' : i < a.length := by omega
    simp (disch := first | assumption | omega) only [show nI a.length = nI l.length by rw [hll], nI_lt, inb_nat, upd_len, cond_true, nth_upd, upd_upd, nth_nat, hla, wi64_in, markText_eq, markColS_eq, markStringS_eq, ← hll]
    rw [upd_nat]
    congr 3 <;> first | rfl | omega | skip) (fun l k rec hll => by
    show laws_markTableS_l0_r _ _ _ _ _ = _
    dsimp only
    unfold laws_markTableS_l0_r
    rw [← hll, nI_ge, cond_false])
  exact this
end Go.PI.G
namespace Go.PI.G
open Go Go.PI Go.Proofs

theorem toCat_eq (a : List qT) (h : msr (.slice (.pair .str (.pair (.slice (.pair .str (.pair (.int .i64) (.pair .bool (.pair .bool (.pair (.int .i64) (.pair (.int .i64) .str))))))) (.slice .str)))) a ≤ 1048576) (k : qF → Res) : laws_toCat a k = k a := by
  have h0 : msr (.slice (.pair .str (.pair (.slice (.pair .str (.pair (.int .i64) (.pair .bool (.pair .bool (.pair (.int .i64) (.pair (.int .i64) .str))))))) (.slice .str)))) a ≤ 1048576 := h
  unfold laws_toCat
  simp only [toTableS_eq _ h0]

theorem szCat_eq (a : List qT) (left : Int) (h0 : 0 ≤ left) (h1 : left ≤ 1048576) (hw : Wf (.slice (.pair .str (.pair (.slice (.pair .str (.pair (.int .i64) (.pair .bool (.pair .bool (.pair (.int .i64) (.pair (.int .i64) .str))))))) (.slice .str)))) a) (k : Int → Res) : laws_szCat a left k = k (szR left (msr (.slice (.pair .str (.pair (.slice (.pair .str (.pair (.int .i64) (.pair .bool (.pair .bool (.pair (.int .i64) (.pair (.int .i64) .str))))))) (.slice .str)))) a)) := by
  have hm : msr (.slice (.pair .str (.pair (.slice (.pair .str (.pair (.int .i64) (.pair .bool (.pair .bool (.pair (.int .i64) (.pair (.int .i64) .str))))))) (.slice .str)))) a = msr (.slice (.pair .str (.pair (.slice (.pair .str (.pair (.int .i64) (.pair .bool (.pair .bool (.pair (.int .i64) (.pair (.int .i64) .str))))))) (.slice .str)))) a + 0 := rfl
  rw [hm]
  unfold laws_szCat
  rw [szTableS_eq _ _ (by omega) (by omega) hw]
  by_cases hb0 : ((msr (.slice (.pair .str (.pair (.slice (.pair .str (.pair (.int .i64) (.pair .bool (.pair .bool (.pair (.int .i64) (.pair (.int .i64) .str))))))) (.slice .str)))) a : Nat) : Int) ≤ left
  rotate_left
  · rw [szR_neg hb0, szR_stop hb0, dec_lt_t (by omega), cond_true]
  rw [szR_pos hb0, szR_step hb0, dec_lt_f (by omega), cond_false]
  exact sz_end (by omega)

theorem eqCat_eq (a : List qT) (h : msr (.slice (.pair .str (.pair (.slice (.pair .str (.pair (.int .i64) (.pair .bool (.pair .bool (.pair (.int .i64) (.pair (.int .i64) .str))))))) (.slice .str)))) a ≤ 1048576) (k : Bool → Res) : laws_eqCat a a k = k true := by
  have h0 : msr (.slice (.pair .str (.pair (.slice (.pair .str (.pair (.int .i64) (.pair .bool (.pair .bool (.pair (.int .i64) (.pair (.int .i64) .str))))))) (.slice .str)))) a ≤ 1048576 := h
  unfold laws_eqCat
  simp only [bne_f, sNe_self, beq_self_eq_true, cond_false, Bool.not_true, eqTableS_eq _ h0]

theorem markCat_eq (a : List qT) (k : Int) (h : msr (.slice (.pair .str (.pair (.slice (.pair .str (.pair (.int .i64) (.pair .bool (.pair .bool (.pair (.int .i64) (.pair (.int .i64) .str))))))) (.slice .str)))) a ≤ 1048576) (h0 : 1 ≤ k) (hk : k + (wgtT (.slice (.pair .str (.pair (.slice (.pair .str (.pair (.int .i64) (.pair .bool (.pair .bool (.pair (.int .i64) (.pair (.int .i64) .str))))))) (.slice .str)))) a : Int) ≤ 4294967296) (K : Int → qF → Res) : laws_markCat a k K = K (k + (wgtT (.slice (.pair .str (.pair (.slice (.pair .str (.pair (.int .i64) (.pair .bool (.pair .bool (.pair (.int .i64) (.pair (.int .i64) .str))))))) (.slice .str)))) a : Int)) (mkT (.slice (.pair .str (.pair (.slice (.pair .str (.pair (.int .i64) (.pair .bool (.pair .bool (.pair (.int .i64) (.pair (.int .i64) .str))))))) (.slice .str)))) a k) := by
  have h0 : msr (.slice (.pair .str (.pair (.slice (.pair .str (.pair (.int .i64) (.pair .bool (.pair .bool (.pair (.int .i64) (.pair (.int .i64) .str))))))) (.slice .str)))) a ≤ 1048576 := by
    have : msr (.slice (.pair .str (.pair (.slice (.pair .str (.pair (.int .i64) (.pair .bool (.pair .bool (.pair (.int .i64) (.pair (.int .i64) .str))))))) (.slice .str)))) a ≤ msr (.slice (.pair .str (.pair (.slice (.pair .str (.pair (.int .i64) (.pair .bool (.pair .bool (.pair (.int .i64) (.pair (.int .i64) .str))))))) (.slice .str)))) a := by first | exact Nat.le_refl _ | (simp only [msr]; omega)
    omega
  have g0 : msr (.slice (.pair .str (.pair (.slice (.pair .str (.pair (.int .i64) (.pair .bool (.pair .bool (.pair (.int .i64) (.pair (.int .i64) .str))))))) (.slice .str)))) a ≤ 1048576 := by
    have : msr (.slice (.pair .str (.pair (.slice (.pair .str (.pair (.int .i64) (.pair .bool (.pair .bool (.pair (.int .i64) (.pair (.int .i64) .str))))))) (.slice .str)))) a ≤ msr (.slice (.pair .str (.pair (.slice (.pair .str (.pair (.int .i64) (.pair .bool (.pair .bool (.pair (.int .i64) (.pair (.int .i64) .str))))))) (.slice .str)))) a := by first | exact Nat.le_refl _ | (simp only [msr]; omega)
    omega
  have hw : wgtT (.slice (.pair .str (.pair (.slice (.pair .str (.pair (.int .i64) (.pair .bool (.pair .bool (.pair (.int .i64) (.pair (.int .i64) .str))))))) (.slice .str)))) a = wgt (.slice (.pair .str (.pair (.slice (.pair .str (.pair (.int .i64) (.pair .bool (.pair .bool (.pair (.int .i64) (.pair (.int .i64) .str))))))) (.slice .str)))) a := by first | rfl | (simp only [wgtT_pair, wgtT_slice, wgtT_int, wgtT_bool, wgtT_str, Nat.zero_add, Nat.add_zero]; done) | (simp only [wgtT_pair, wgtT_slice, wgtT_int, wgtT_bool, wgtT_str, Nat.zero_add, Nat.add_zero]; omega)
  have w0 : wgtT (.slice (.pair .str (.pair (.slice (.pair .str (.pair (.int .i64) (.pair .bool (.pair .bool (.pair (.int .i64) (.pair (.int .i64) .str))))))) (.slice .str)))) a = wgt (.slice (.pair .str (.pair (.slice (.pair .str (.pair (.int .i64) (.pair .bool (.pair .bool (.pair (.int .i64) (.pair (.int .i64) .str))))))) (.slice .str)))) a := by first | rfl | (simp only [wgtT, wgt]; omega)
  unfold laws_markCat
  simp (disch := first | assumption | omega) only [markTableS_eq]
  first | rfl | (simp only [mkT_slice, mkT_int, mkT_bool, mkT_str, wgtT_slice, wgtT_int, wgtT_bool, wgtT_str, Int.natCast_add, Int.natCast_zero, Int.cast_ofNat_Int, Nat.zero_add, Nat.add_zero, Int.add_zero, ← Int.add_assoc]; done) | (simp only [mkT_slice, mkT_int, mkT_bool, mkT_str, wgtT_slice, wgtT_int, wgtT_bool, wgtT_str, Int.natCast_add, Int.natCast_zero, Int.cast_ofNat_Int, Nat.zero_add, Nat.add_zero, Int.add_zero, ← Int.add_assoc]; rfl)
end Go.PI.G
namespace Go.PI.G
open Go Go.PI Go.Proofs

theorem toValS_eq (a : qW) (h : msr (.slice (.pair (.int .i64) (.pair (.int .i64) .str))) a ≤ 1048576) (k : qW → Res) : laws_toValS a k = k a := by
  have hl : a.length ≤ 1048576 := msr_len h
  unfold laws_toValS
  rw [mkOk_of (by unfold LIM; omega), cond_true]
  have := to_loop ((0, 0, eS)) a id (step := laws_toValS_l0_s a) (fun out => k out) (by unfold LIM; omega) (fun out i rec hi hlo => by
    show laws_toValS_l0_r a _ _ _ _ = _
    unfold laws_toValS_l0_r
    dsimp only
    simp only [nI_lt hi, cond_true, inb_nat hi, inb_nat (show i < out.length by omega), nth_nat _ _ _ hi, upd_nat, wi64_in (n := (i : Int) + 1) (by omega), toVal_eq _ (msr_mem h (List.getElem_mem hi))]
    rfl) (fun out rec => by
    show laws_toValS_l0_r a _ _ _ _ = _
    unfold laws_toValS_l0_r
    dsimp only
    rw [nI_ge, cond_false])
  rw [List.map_id] at this
  exact this

theorem szValS_eq (a : qW) (left : Int) (h0 : 0 ≤ left) (h1 : left ≤ 1048576) (hw : Wf (.slice (.pair (.int .i64) (.pair (.int .i64) .str))) a) (k : Int → Res) : laws_szValS a left k = k (szR left (msr (.slice (.pair (.int .i64) (.pair (.int .i64) .str))) a)) := by
  have hl : a.length ≤ maxLen := hw.1
  have hm : msr (.slice (.pair (.int .i64) (.pair (.int .i64) .str))) a = a.length + (a.map (msr (.pair (.int .i64) (.pair (.int .i64) .str)))).sum := rfl
  rw [hm]
  unfold laws_szValS
  refine sz_str (F := fun q => laws_szValS_l0 a FUEL q 0 (fun left1 => k left1) (fun _ => k (-1))) (k := k) h0 h1 hl fun hb => ?_
  unfold laws_szValS_l0
  rw [sz_loop (msr (.pair (.int .i64) (.pair (.int .i64) .str))) a _ (by omega) (fun left i rec hi h0 h1 => ?_) (fun left rec => ?_) _ (by omega) (by omega)]
  · by_cases hb : (((a.map (msr (.pair (.int .i64) (.pair (.int .i64) .str)))).sum : Nat) : Int) ≤ left - a.length
    · rw [if_pos hb, szR_pos hb]
    · rw [if_neg hb, szR_neg hb]
  · show laws_szValS_l0_r a _ _ _ _ _ = _
    have hx := hw.2 _ (List.getElem_mem hi)
    unfold laws_szValS_l0_r
    rw [nI_lt hi, cond_true, inb_nat hi, cond_true, nth_nat _ _ _ hi, szVal_eq _ _ h0 h1 hx]
    have hi9 : (i : Int) < 4611686018427387904 := by unfold maxLen at hl; omega
    rw [wi64_in (n := (i : Int) + 1) (by omega)]
    by_cases hb : ((msr (.pair (.int .i64) (.pair (.int .i64) .str)) a[i] : Nat) : Int) ≤ left
    · rw [if_pos hb, szR_pos hb, dec_lt_f (by omega), cond_false]
    · rw [if_neg hb, szR_neg hb, dec_lt_t (by omega), cond_true]
  · show laws_szValS_l0_r a _ _ _ _ _ = _
    unfold laws_szValS_l0_r
    rw [nI_ge, cond_false]

theorem eqValS_eq (a : qW) (h : msr (.slice (.pair (.int .i64) (.pair (.int .i64) .str))) a ≤ 1048576) (k : Bool → Res) : laws_eqValS a a k = k true := by
  have hl : a.length ≤ 1048576 := msr_len h
  unfold laws_eqValS
  rw [bne_f, cond_false]
  unfold laws_eqValS_l0
  rw [eq_loop a _ (by unfold LIM; omega) (fun i rec hi => ?_) (fun rec => ?_)]
  · show laws_eqValS_l0_r a a _ _ _ _ = _
    unfold laws_eqValS_l0_r
    simp only [nI_lt hi, cond_true, inb_nat hi, nth_nat _ _ _ hi, wi64_in (n := (i : Int) + 1) (by omega), bne_f, sNe_self, cond_false, Bool.not_true, eqVal_eq _ (msr_mem h (List.getElem_mem hi))]
  · show laws_eqValS_l0_r a a _ _ _ _ = _
    unfold laws_eqValS_l0_r
    rw [nI_ge, cond_false]

theorem markValS_eq (a : qW) (k : Int) (h : msr (.slice (.pair (.int .i64) (.pair (.int .i64) .str))) a ≤ 1048576) (h0 : 1 ≤ k) (hk : k + (wgt (.slice (.pair (.int .i64) (.pair (.int .i64) .str))) a : Int) ≤ 4294967296) (K : Int → qW → Res) : laws_markValS a k K = K (k + (wgt (.slice (.pair (.int .i64) (.pair (.int .i64) .str))) a : Int)) (mkL (wgt (.pair (.int .i64) (.pair (.int .i64) .str))) (mk (.pair (.int .i64) (.pair (.int .i64) .str))) a k) := by
  have hl : a.length ≤ 1048576 := msr_len h
  have hwg : wgt (.slice (.pair (.int .i64) (.pair (.int .i64) .str))) a = (a.map (wgt (.pair (.int .i64) (.pair (.int .i64) .str)))).sum := rfl
  rw [hwg] at hk ⊢
  unfold laws_markValS laws_markValS_l0
  have := mark_loop (wgt (.pair (.int .i64) (.pair (.int .i64) .str))) (mk (.pair (.int .i64) (.pair (.int .i64) .str))) a k (fun l k i => (l, k, i)) (step := laws_markValS_l0_s) (fun l k => K k l) (fun l k => K k l) (by unfold LIM; omega) (fun l i rec hi hll hli hla => by
    have e1 := sum_take (wgt (.pair (.int .i64) (.pair (.int .i64) .str))) a i hi
    have e2 := sum_take_le (wgt (.pair (.int .i64) (.pair (.int .i64) .str))) a (i + 1)
    generalize hκ : k + ((((a.take i).map (wgt (.pair (.int .i64) (.pair (.int .i64) .str)))).sum : Nat) : Int) = κ
    have hκ1 : 1 ≤ κ ∧ κ + (wgt (.pair (.int .i64) (.pair (.int .i64) .str)) a[i] : Int) ≤ 4294967296 := by omega
    have hw : (wgt (.pair (.int .i64) (.pair (.int .i64) .str)) a[i] : Int) = 1 + 1 + 1 := by
      have : wgt (.pair (.int .i64) (.pair (.int .i64) .str)) a[i] = 1 + 1 + 1 := by first | rfl | (simp only [wgt]; done) | (simp only [wgt]; omega)
      first | rfl | omega
    show laws_markValS_l0_r _ _ _ _ _ = _
    dsimp only
    unfold laws_markValS_l0_r
    rw [← hll] at hi
    have hi' : i < a.length := by omega
    simp (disch := first | assumption | omega) only [show nI a.length = nI l.length by rw [hll], nI_lt, inb_nat, upd_len, cond_true, nth_upd, upd_upd, nth_nat, hla, wi64_in, markText_eq, ← hll]
    rw [upd_nat]
    congr 3 <;> first | rfl | omega | skip) (fun l k rec hll => by
    show laws_markValS_l0_r _ _ _ _ _ = _
    dsimp only
    unfold laws_markValS_l0_r
    rw [← hll, nI_ge, cond_false])
  exact this
end Go.PI.G
namespace Go.PI.G
open Go Go.PI Go.Proofs

theorem toRow_eq (a : List qV) (h : msr (.slice (.pair (.int .i64) (.pair (.int .i64) .str))) a ≤ 1048576) (k : qW → Res) : laws_toRow a k = k a := by
  have h0 : msr (.slice (.pair (.int .i64) (.pair (.int .i64) .str))) a ≤ 1048576 := h
  unfold laws_toRow
  simp only [toValS_eq _ h0]

theorem szRow_eq (a : List qV) (left : Int) (h0 : 0 ≤ left) (h1 : left ≤ 1048576) (hw : Wf (.slice (.pair (.int .i64) (.pair (.int .i64) .str))) a) (k : Int → Res) : laws_szRow a left k = k (szR left (msr (.slice (.pair (.int .i64) (.pair (.int .i64) .str))) a)) := by
  have hm : msr (.slice (.pair (.int .i64) (.pair (.int .i64) .str))) a = msr (.slice (.pair (.int .i64) (.pair (.int .i64) .str))) a + 0 := rfl
  rw [hm]
  unfold laws_szRow
  rw [szValS_eq _ _ (by omega) (by omega) hw]
  by_cases hb0 : ((msr (.slice (.pair (.int .i64) (.pair (.int .i64) .str))) a : Nat) : Int) ≤ left
  rotate_left
  · rw [szR_neg hb0, szR_stop hb0, dec_lt_t (by omega), cond_true]
  rw [szR_pos hb0, szR_step hb0, dec_lt_f (by omega), cond_false]
  exact sz_end (by omega)

theorem eqRow_eq (a : List qV) (h : msr (.slice (.pair (.int .i64) (.pair (.int .i64) .str))) a ≤ 1048576) (k : Bool → Res) : laws_eqRow a a k = k true := by
  have h0 : msr (.slice (.pair (.int .i64) (.pair (.int .i64) .str))) a ≤ 1048576 := h
  unfold laws_eqRow
  simp only [bne_f, sNe_self, beq_self_eq_true, cond_false, Bool.not_true, eqValS_eq _ h0]
end Go.PI.G
namespace Go.PI.G
open Go Go.PI Go.Proofs

theorem toRowS_eq (a : qR) (h : msr (.slice (.slice (.pair (.int .i64) (.pair (.int .i64) .str)))) a ≤ 1048576) (k : qR → Res) : laws_toRowS a k = k a := by
  have hl : a.length ≤ 1048576 := msr_len h
  unfold laws_toRowS
  rw [mkOk_of (by unfold LIM; omega), cond_true]
  have := to_loop ([]) a id (step := laws_toRowS_l0_s a) (fun out => k out) (by unfold LIM; omega) (fun out i rec hi hlo => by
    show laws_toRowS_l0_r a _ _ _ _ = _
    unfold laws_toRowS_l0_r
    dsimp only
    simp only [nI_lt hi, cond_true, inb_nat hi, inb_nat (show i < out.length by omega), nth_nat _ _ _ hi, upd_nat, wi64_in (n := (i : Int) + 1) (by omega), toRow_eq _ (msr_mem h (List.getElem_mem hi))]
    rfl) (fun out rec => by
    show laws_toRowS_l0_r a _ _ _ _ = _
    unfold laws_toRowS_l0_r
    dsimp only
    rw [nI_ge, cond_false])
  rw [List.map_id] at this
  exact this

theorem szRowS_eq (a : qR) (left : Int) (h0 : 0 ≤ left) (h1 : left ≤ 1048576) (hw : Wf (.slice (.slice (.pair (.int .i64) (.pair (.int .i64) .str)))) a) (k : Int → Res) : laws_szRowS a left k = k (szR left (msr (.slice (.slice (.pair (.int .i64) (.pair (.int .i64) .str)))) a)) := by
  have hl : a.length ≤ maxLen := hw.1
  have hm : msr (.slice (.slice (.pair (.int .i64) (.pair (.int .i64) .str)))) a = a.length + (a.map (msr (.slice (.pair (.int .i64) (.pair (.int .i64) .str))))).sum := rfl
  rw [hm]
  unfold laws_szRowS
  refine sz_str (F := fun q => laws_szRowS_l0 a FUEL q 0 (fun left1 => k left1) (fun _ => k (-1))) (k := k) h0 h1 hl fun hb => ?_
  unfold laws_szRowS_l0
  rw [sz_loop (msr (.slice (.pair (.int .i64) (.pair (.int .i64) .str)))) a _ (by omega) (fun left i rec hi h0 h1 => ?_) (fun left rec => ?_) _ (by omega) (by omega)]
  · by_cases hb : (((a.map (msr (.slice (.pair (.int .i64) (.pair (.int .i64) .str))))).sum : Nat) : Int) ≤ left - a.length
    · rw [if_pos hb, szR_pos hb]
    · rw [if_neg hb, szR_neg hb]
  · show laws_szRowS_l0_r a _ _ _ _ _ = _
    have hx := hw.2 _ (List.getElem_mem hi)
    unfold laws_szRowS_l0_r
    rw [nI_lt hi, cond_true, inb_nat hi, cond_true, nth_nat _ _ _ hi, szRow_eq _ _ h0 h1 hx]
    have hi9 : (i : Int) < 4611686018427387904 := by unfold maxLen at hl; omega
    rw [wi64_in (n := (i : Int) + 1) (by omega)]
    by_cases hb : ((msr (.slice (.pair (.int .i64) (.pair (.int .i64) .str))) a[i] : Nat) : Int) ≤ left
    · rw [if_pos hb, szR_pos hb, dec_lt_f (by omega), cond_false]
    · rw [if_neg hb, szR_neg hb, dec_lt_t (by omega), cond_true]
  · show laws_szRowS_l0_r a _ _ _ _ _ = _
    unfold laws_szRowS_l0_r
    rw [nI_ge, cond_false]

theorem eqRowS_eq (a : qR) (h : msr (.slice (.slice (.pair (.int .i64) (.pair (.int .i64) .str)))) a ≤ 1048576) (k : Bool → Res) : laws_eqRowS a a k = k true := by
  have hl : a.length ≤ 1048576 := msr_len h
  unfold laws_eqRowS
  rw [bne_f, cond_false]
  unfold laws_eqRowS_l0
  rw [eq_loop a _ (by unfold LIM; omega) (fun i rec hi => ?_) (fun rec => ?_)]
  · show laws_eqRowS_l0_r a a _ _ _ _ = _
    unfold laws_eqRowS_l0_r
    simp only [nI_lt hi, cond_true, inb_nat hi, nth_nat _ _ _ hi, wi64_in (n := (i : Int) + 1) (by omega), bne_f, sNe_self, cond_false, Bool.not_true, eqRow_eq _ (msr_mem h (List.getElem_mem hi))]
  · show laws_eqRowS_l0_r a a _ _ _ _ = _
    unfold laws_eqRowS_l0_r
    rw [nI_ge, cond_false]

theorem markRowS_eq (a : qR) (k : Int) (h : msr (.slice (.slice (.pair (.int .i64) (.pair (.int .i64) .str)))) a ≤ 1048576) (h0 : 1 ≤ k) (hk : k + (wgt (.slice (.slice (.pair (.int .i64) (.pair (.int .i64) .str)))) a : Int) ≤ 4294967296) (K : Int → qR → Res) : laws_markRowS a k K = K (k + (wgt (.slice (.slice (.pair (.int .i64) (.pair (.int .i64) .str)))) a : Int)) (mkL (wgt (.slice (.pair (.int .i64) (.pair (.int .i64) .str)))) (mk (.slice (.pair (.int .i64) (.pair (.int .i64) .str)))) a k) := by
  have hl : a.length ≤ 1048576 := msr_len h
  have hwg : wgt (.slice (.slice (.pair (.int .i64) (.pair (.int .i64) .str)))) a = (a.map (wgt (.slice (.pair (.int .i64) (.pair (.int .i64) .str))))).sum := rfl
  rw [hwg] at hk ⊢
  unfold laws_markRowS laws_markRowS_l0
  have := mark_loop (wgt (.slice (.pair (.int .i64) (.pair (.int .i64) .str)))) (mk (.slice (.pair (.int .i64) (.pair (.int .i64) .str)))) a k (fun l k i => (l, k, i)) (step := laws_markRowS_l0_s) (fun l k => K k l) (fun l k => K k l) (by unfold LIM; omega) (fun l i rec hi hll hli hla => by
    have e1 := sum_take (wgt (.slice (.pair (.int .i64) (.pair (.int .i64) .str)))) a i hi
    have e2 := sum_take_le (wgt (.slice (.pair (.int .i64) (.pair (.int .i64) .str)))) a (i + 1)
    generalize hκ : k + ((((a.take i).map (wgt (.slice (.pair (.int .i64) (.pair (.int .i64) .str))))).sum : Nat) : Int) = κ
    have hκ1 : 1 ≤ κ ∧ κ + (wgt (.slice (.pair (.int .i64) (.pair (.int .i64) .str))) a[i] : Int) ≤ 4294967296 := by omega
    have hw : (wgt (.slice (.pair (.int .i64) (.pair (.int .i64) .str))) a[i] : Int) = (wgt (.slice (.pair (.int .i64) (.pair (.int .i64) .str))) a[i] : Int) := by
      have : wgt (.slice (.pair (.int .i64) (.pair (.int .i64) .str))) a[i] = (wgt (.slice (.pair (.int .i64) (.pair (.int .i64) .str))) a[i]) := by first | rfl | (simp only [wgt]; done) | (simp only [wgt]; omega)
      first | rfl | omega
    have hr0 : msr (.slice (.pair (.int .i64) (.pair (.int .i64) .str))) a[i] ≤ 1048576 := by
      have q1 := msr_mem h (List.getElem_mem hi)
      have q2 : msr (.slice (.pair (.int .i64) (.pair (.int .i64) .str))) a[i] ≤ msr (.slice (.pair (.int .i64) (.pair (.int .i64) .str))) a[i] := by first | exact Nat.le_refl _ | (simp only [msr]; omega)
      omega
    show laws_markRowS_l0_r _ _ _ _ _ = _
    dsimp only
    unfold laws_markRowS_l0_r
    rw [← hll] at hi
    have hi' : i < a.length := by omega
    simp (disch := first | assumption | omega) only [show nI a.length = nI l.length by rw [hll], nI_lt, inb_nat, upd_len, cond_true, nth_upd, upd_upd, nth_nat, hla, wi64_in, markText_eq, markValS_eq, ← hll]
    rw [upd_nat]
    congr 3 <;> first | rfl | omega | skip) (fun l k rec hll => by
    show laws_markRowS_l0_r _ _ _ _ _ = _
    dsimp only
    unfold laws_markRowS_l0_r
    rw [← hll, nI_ge, cond_false])
  exact this
end Go.PI.G
namespace Go.PI.G
open Go Go.PI Go.Proofs

theorem toRows_eq (a : List qW) (h : msr (.slice (.slice (.pair (.int .i64) (.pair (.int .i64) .str)))) a ≤ 1048576) (k : qR → Res) : laws_toRows a k = k a := by
  have h0 : msr (.slice (.slice (.pair (.int .i64) (.pair (.int .i64) .str)))) a ≤ 1048576 := h
  unfold laws_toRows
  simp only [toRowS_eq _ h0]

theorem szRows_eq (a : List qW) (left : Int) (h0 : 0 ≤ left) (h1 : left ≤ 1048576) (hw : Wf (.slice (.slice (.pair (.int .i64) (.pair (.int .i64) .str)))) a) (k : Int → Res) : laws_szRows a left k = k (szR left (msr (.slice (.slice (.pair (.int .i64) (.pair (.int .i64) .str)))) a)) := by
  have hm : msr (.slice (.slice (.pair (.int .i64) (.pair (.int .i64) .str)))) a = msr (.slice (.slice (.pair (.int .i64) (.pair (.int .i64) .str)))) a + 0 := rfl
  rw [hm]
  unfold laws_szRows
  rw [szRowS_eq _ _ (by omega) (by omega) hw]
  by_cases hb0 : ((msr (.slice (.slice (.pair (.int .i64) (.pair (.int .i64) .str)))) a : Nat) : Int) ≤ left
  rotate_left
  · rw [szR_neg hb0, szR_stop hb0, dec_lt_t (by omega), cond_true]
  rw [szR_pos hb0, szR_step hb0, dec_lt_f (by omega), cond_false]
  exact sz_end (by omega)

theorem eqRows_eq (a : List qW) (h : msr (.slice (.slice (.pair (.int .i64) (.pair (.int .i64) .str)))) a ≤ 1048576) (k : Bool → Res) : laws_eqRows a a k = k true := by
  have h0 : msr (.slice (.slice (.pair (.int .i64) (.pair (.int .i64) .str)))) a ≤ 1048576 := h
  unfold laws_eqRows
  simp only [bne_f, sNe_self, beq_self_eq_true, cond_false, Bool.not_true, eqRowS_eq _ h0]
end Go.PI.G
