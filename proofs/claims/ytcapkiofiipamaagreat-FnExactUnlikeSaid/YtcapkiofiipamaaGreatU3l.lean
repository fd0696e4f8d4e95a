/-
  Printed texts and plain laws. No conditions.
-/
import Derived.Test.YtcapkiofiipamaaGreatU3j
import Derived.Test.YtcapkiofiipamaaGreatU3h
import Derived.Test.YtcapkiofiipamaaGreatU3k
set_option linter.unusedVariables false
set_option linter.unusedSimpArgs false
set_option maxRecDepth 10000
namespace Go.PI.G
open Go Go.PI Go.Proofs

theorem toRowsS_eq (a : qX) (h : msr (.slice (.slice (.slice (.pair (.int .i64) (.pair (.int .i64) .str))))) a ≤ 1048576) (k : qX → Res) : laws_toRowsS a k = k a := by
  have hl : a.length ≤ 1048576 := msr_len h
  unfold laws_toRowsS
  rw [mkOk_of (by unfold LIM; omega), cond_true]
  have := to_loop ([]) a id (step := laws_toRowsS_l0_s a) (fun out => k out) (by unfold LIM; omega) (fun out i rec hi hlo => by
    show laws_toRowsS_l0_r a _ _ _ _ = _
    unfold laws_toRowsS_l0_r
    dsimp only
    simp only [nI_lt hi, cond_true, inb_nat hi, inb_nat (show i < out.length by omega), nth_nat _ _ _ hi, upd_nat, wi64_in (n := (i : Int) + 1) (by omega), toRows_eq _ (msr_mem h (List.getElem_mem hi))]
    rfl) (fun out rec => by
    show laws_toRowsS_l0_r a _ _ _ _ = _
    unfold laws_toRowsS_l0_r
    dsimp only
    rw [nI_ge, cond_false])
  rw [List.map_id] at this
  exact this

theorem szRowsS_eq (a : qX) (left : Int) (h0 : 0 ≤ left) (h1 : left ≤ 1048576) (hw : Wf (.slice (.slice (.slice (.pair (.int .i64) (.pair (.int .i64) .str))))) a) (k : Int → Res) : laws_szRowsS a left k = k (szR left (msr (.slice (.slice (.slice (.pair (.int .i64) (.pair (.int .i64) .str))))) a)) := by
  have hl : a.length ≤ maxLen := hw.1
  have hm : msr (.slice (.slice (.slice (.pair (.int .i64) (.pair (.int .i64) .str))))) a = a.length + (a.map (msr (.slice (.slice (.pair (.int .i64) (.pair (.int .i64) .str)))))).sum := rfl
  rw [hm]
  unfold laws_szRowsS
  refine sz_str (F := fun q => laws_szRowsS_l0 a FUEL q 0 (fun left1 => k left1) (fun _ => k (-1))) (k := k) h0 h1 hl fun hb => ?_
  unfold laws_szRowsS_l0
  rw [sz_loop (msr (.slice (.slice (.pair (.int .i64) (.pair (.int .i64) .str))))) a _ (by omega) (fun left i rec hi h0 h1 => ?_) (fun left rec => ?_) _ (by omega) (by omega)]
  · by_cases hb : (((a.map (msr (.slice (.slice (.pair (.int .i64) (.pair (.int .i64) .str)))))).sum : Nat) : Int) ≤ left - a.length
    · rw [if_pos hb, szR_pos hb]
    · rw [if_neg hb, szR_neg hb]
  · show laws_szRowsS_l0_r a _ _ _ _ _ = _
    have hx := hw.2 _ (List.getElem_mem hi)
    unfold laws_szRowsS_l0_r
    rw [nI_lt hi, cond_true, inb_nat hi, cond_true, nth_nat _ _ _ hi, szRows_eq _ _ h0 h1 hx]
    have hi9 : (i : Int) < 4611686018427387904 := by unfold maxLen at hl; omega
    rw [wi64_in (n := (i : Int) + 1) (by omega)]
    by_cases hb : ((msr (.slice (.slice (.pair (.int .i64) (.pair (.int .i64) .str)))) a[i] : Nat) : Int) ≤ left
    · rw [if_pos hb, szR_pos hb, dec_lt_f (by omega), cond_false]
    · rw [if_neg hb, szR_neg hb, dec_lt_t (by omega), cond_true]
  · show laws_szRowsS_l0_r a _ _ _ _ _ = _
    unfold laws_szRowsS_l0_r
    rw [nI_ge, cond_false]

theorem eqRowsS_eq (a : qX) (h : msr (.slice (.slice (.slice (.pair (.int .i64) (.pair (.int .i64) .str))))) a ≤ 1048576) (k : Bool → Res) : laws_eqRowsS a a k = k true := by
  have hl : a.length ≤ 1048576 := msr_len h
  unfold laws_eqRowsS
  rw [bne_f, cond_false]
  unfold laws_eqRowsS_l0
  rw [eq_loop a _ (by unfold LIM; omega) (fun i rec hi => ?_) (fun rec => ?_)]
  · show laws_eqRowsS_l0_r a a _ _ _ _ = _
    unfold laws_eqRowsS_l0_r
    simp only [nI_lt hi, cond_true, inb_nat hi, nth_nat _ _ _ hi, wi64_in (n := (i : Int) + 1) (by omega), bne_f, sNe_self, cond_false, Bool.not_true, eqRows_eq _ (msr_mem h (List.getElem_mem hi))]
  · show laws_eqRowsS_l0_r a a _ _ _ _ = _
    unfold laws_eqRowsS_l0_r
    rw [nI_ge, cond_false]

theorem markRowsS_eq (a : qX) (k : Int) (h : msr (.slice (.slice (.slice (.pair (.int .i64) (.pair (.int .i64) .str))))) a ≤ 1048576) (h0 : 1 ≤ k) (hk : k + (wgt (.slice (.slice (.slice (.pair (.int .i64) (.pair (.int .i64) .str))))) a : Int) ≤ 4294967296) (K : Int → qX → Res) : laws_markRowsS a k K = K (k + (wgt (.slice (.slice (.slice (.pair (.int .i64) (.pair (.int .i64) .str))))) a : Int)) (mkL (wgt (.slice (.slice (.pair (.int .i64) (.pair (.int .i64) .str))))) (mk (.slice (.slice (.pair (.int .i64) (.pair (.int .i64) .str))))) a k) := by
  have hl : a.length ≤ 1048576 := msr_len h
  have hwg : wgt (.slice (.slice (.slice (.pair (.int .i64) (.pair (.int .i64) .str))))) a = (a.map (wgt (.slice (.slice (.pair (.int .i64) (.pair (.int .i64) .str)))))).sum := rfl
  rw [hwg] at hk ⊢
  unfold laws_markRowsS laws_markRowsS_l0
  have := mark_loop (wgt (.slice (.slice (.pair (.int .i64) (.pair (.int .i64) .str))))) (mk (.slice (.slice (.pair (.int .i64) (.pair (.int .i64) .str))))) a k (fun l k i => (l, k, i)) (step := laws_markRowsS_l0_s) (fun l k => K k l) (fun l k => K k l) (by unfold LIM; omega) (fun l i rec hi hll hli hla => by
    have e1 := sum_take (wgt (.slice (.slice (.pair (.int .i64) (.pair (.int .i64) .str))))) a i hi
    have e2 := sum_take_le (wgt (.slice (.slice (.pair (.int .i64) (.pair (.int .i64) .str))))) a (i + 1)
    generalize hκ : k + ((((a.take i).map (wgt (.slice (.slice (.pair (.int .i64) (.pair (.int .i64) .str)))))).sum : Nat) : Int) = κ
    have hκ1 : 1 ≤ κ ∧ κ + (wgt (.slice (.slice (.pair (.int .i64) (.pair (.int .i64) .str)))) a[i] : Int) ≤ 4294967296 := by omega
    have hw : (wgt (.slice (.slice (.pair (.int .i64) (.pair (.int .i64) .str)))) a[i] : Int) = (wgt (.slice (.slice (.pair (.int .i64) (.pair (.int .i64) .str)))) a[i] : Int) := by
      have : wgt (.slice (.slice (.pair (.int .i64) (.pair (.int .i64) .str)))) a[i] = (wgt (.slice (.slice (.pair (.int .i64) (.pair (.int .i64) .str)))) a[i]) := by first | rfl | (simp only [wgt]; done) | (simp only [wgt]; omega)
      first | rfl | omega
    have hr0 : msr (.slice (.slice (.pair (.int .i64) (.pair (.int .i64) .str)))) a[i] ≤ 1048576 := by
      have q1 := msr_mem h (List.getElem_mem hi)
      have q2 : msr (.slice (.slice (.pair (.int .i64) (.pair (.int .i64) .str)))) a[i] ≤ msr (.slice (.slice (.pair (.int .i64) (.pair (.int .i64) .str)))) a[i] := by first | exact Nat.le_refl _ | (simp only [msr]; omega)
      omega
    show laws_markRowsS_l0_r _ _ _ _ _ = _
    dsimp only
    unfold laws_markRowsS_l0_r
    rw [← hll] at hi
    have hi' : i < a.length := by omega
    simp (disch := first | assumption | omega) only [show nI a.length = nI l.length by rw [hll], nI_lt, inb_nat, upd_len, cond_true, nth_upd, upd_upd, nth_nat, hla, wi64_in, markText_eq, markRowS_eq, ← hll]
    rw [upd_nat]
    congr 3 <;> first | rfl | omega | skip) (fun l k rec hll => by
    show laws_markRowsS_l0_r _ _ _ _ _ = _
    dsimp only
    unfold laws_markRowsS_l0_r
    rw [← hll, nI_ge, cond_false])
  exact this
end Go.PI.G
namespace Go.PI.G
open Go Go.PI Go.Proofs

theorem toDb_eq (a : qF × List qR) (h : msr (.pair (.slice (.pair .str (.pair (.slice (.pair .str (.pair (.int .i64) (.pair .bool (.pair .bool (.pair (.int .i64) (.pair (.int .i64) .str))))))) (.slice .str)))) (.slice (.slice (.slice (.pair (.int .i64) (.pair (.int .i64) .str)))))) a ≤ 1048576) (k : qD → Res) : laws_toDb a k = k a := by
  have h0 : msr (.slice (.pair .str (.pair (.slice (.pair .str (.pair (.int .i64) (.pair .bool (.pair .bool (.pair (.int .i64) (.pair (.int .i64) .str))))))) (.slice .str)))) a.1 ≤ 1048576 := by
    have : msr (.slice (.pair .str (.pair (.slice (.pair .str (.pair (.int .i64) (.pair .bool (.pair .bool (.pair (.int .i64) (.pair (.int .i64) .str))))))) (.slice .str)))) a.1 ≤ msr (.pair (.slice (.pair .str (.pair (.slice (.pair .str (.pair (.int .i64) (.pair .bool (.pair .bool (.pair (.int .i64) (.pair (.int .i64) .str))))))) (.slice .str)))) (.slice (.slice (.slice (.pair (.int .i64) (.pair (.int .i64) .str)))))) a := by first | exact Nat.le_refl _ | (simp only [msr]; omega)
    omega
  have h1 : msr (.slice (.slice (.slice (.pair (.int .i64) (.pair (.int .i64) .str))))) a.2 ≤ 1048576 := by
    have : msr (.slice (.slice (.slice (.pair (.int .i64) (.pair (.int .i64) .str))))) a.2 ≤ msr (.pair (.slice (.pair .str (.pair (.slice (.pair .str (.pair (.int .i64) (.pair .bool (.pair .bool (.pair (.int .i64) (.pair (.int .i64) .str))))))) (.slice .str)))) (.slice (.slice (.slice (.pair (.int .i64) (.pair (.int .i64) .str)))))) a := by first | exact Nat.le_refl _ | (simp only [msr]; omega)
    omega
  unfold laws_toDb
  simp only [toCat_eq _ h0, toRowsS_eq _ h1]

theorem szDb_eq (a : qF × List qR) (left : Int) (h0 : 0 ≤ left) (h1 : left ≤ 1048576) (hw : Wf (.pair (.slice (.pair .str (.pair (.slice (.pair .str (.pair (.int .i64) (.pair .bool (.pair .bool (.pair (.int .i64) (.pair (.int .i64) .str))))))) (.slice .str)))) (.slice (.slice (.slice (.pair (.int .i64) (.pair (.int .i64) .str)))))) a) (k : Int → Res) : laws_szDb a left k = k (szR left (msr (.pair (.slice (.pair .str (.pair (.slice (.pair .str (.pair (.int .i64) (.pair .bool (.pair .bool (.pair (.int .i64) (.pair (.int .i64) .str))))))) (.slice .str)))) (.slice (.slice (.slice (.pair (.int .i64) (.pair (.int .i64) .str)))))) a)) := by
  have hm : msr (.pair (.slice (.pair .str (.pair (.slice (.pair .str (.pair (.int .i64) (.pair .bool (.pair .bool (.pair (.int .i64) (.pair (.int .i64) .str))))))) (.slice .str)))) (.slice (.slice (.slice (.pair (.int .i64) (.pair (.int .i64) .str)))))) a = msr (.slice (.pair .str (.pair (.slice (.pair .str (.pair (.int .i64) (.pair .bool (.pair .bool (.pair (.int .i64) (.pair (.int .i64) .str))))))) (.slice .str)))) a.1 + (msr (.slice (.slice (.slice (.pair (.int .i64) (.pair (.int .i64) .str))))) a.2 + 0) := by simp only [msr]; omega
  rw [hm]
  unfold laws_szDb
  rw [szCat_eq _ _ (by omega) (by omega) hw.1]
  by_cases hb0 : ((msr (.slice (.pair .str (.pair (.slice (.pair .str (.pair (.int .i64) (.pair .bool (.pair .bool (.pair (.int .i64) (.pair (.int .i64) .str))))))) (.slice .str)))) a.1 : Nat) : Int) ≤ left
  rotate_left
  · rw [szR_neg hb0, szR_stop hb0, dec_lt_t (by omega), cond_true]
  rw [szR_pos hb0, szR_step hb0, dec_lt_f (by omega), cond_false]
  rw [szRowsS_eq _ _ (by omega) (by omega) hw.2]
  by_cases hb1 : ((msr (.slice (.slice (.slice (.pair (.int .i64) (.pair (.int .i64) .str))))) a.2 : Nat) : Int) ≤ left - (msr (.slice (.pair .str (.pair (.slice (.pair .str (.pair (.int .i64) (.pair .bool (.pair .bool (.pair (.int .i64) (.pair (.int .i64) .str))))))) (.slice .str)))) a.1 : Nat)
  rotate_left
  · rw [szR_neg hb1, szR_stop hb1, dec_lt_t (by omega), cond_true]
  rw [szR_pos hb1, szR_step hb1, dec_lt_f (by omega), cond_false]
  exact sz_end (by omega)

theorem eqDb_eq (a : qF × List qR) (h : msr (.pair (.slice (.pair .str (.pair (.slice (.pair .str (.pair (.int .i64) (.pair .bool (.pair .bool (.pair (.int .i64) (.pair (.int .i64) .str))))))) (.slice .str)))) (.slice (.slice (.slice (.pair (.int .i64) (.pair (.int .i64) .str)))))) a ≤ 1048576) (k : Bool → Res) : laws_eqDb a a k = k true := by
  have h0 : msr (.slice (.pair .str (.pair (.slice (.pair .str (.pair (.int .i64) (.pair .bool (.pair .bool (.pair (.int .i64) (.pair (.int .i64) .str))))))) (.slice .str)))) a.1 ≤ 1048576 := by
    have : msr (.slice (.pair .str (.pair (.slice (.pair .str (.pair (.int .i64) (.pair .bool (.pair .bool (.pair (.int .i64) (.pair (.int .i64) .str))))))) (.slice .str)))) a.1 ≤ msr (.pair (.slice (.pair .str (.pair (.slice (.pair .str (.pair (.int .i64) (.pair .bool (.pair .bool (.pair (.int .i64) (.pair (.int .i64) .str))))))) (.slice .str)))) (.slice (.slice (.slice (.pair (.int .i64) (.pair (.int .i64) .str)))))) a := by first | exact Nat.le_refl _ | (simp only [msr]; omega)
    omega
  have h1 : msr (.slice (.slice (.slice (.pair (.int .i64) (.pair (.int .i64) .str))))) a.2 ≤ 1048576 := by
    have : msr (.slice (.slice (.slice (.pair (.int .i64) (.pair (.int .i64) .str))))) a.2 ≤ msr (.pair (.slice (.pair .str (.pair (.slice (.pair .str (.pair (.int .i64) (.pair .bool (.pair .bool (.pair (.int .i64) (.pair (.int .i64) .str))))))) (.slice .str)))) (.slice (.slice (.slice (.pair (.int .i64) (.pair (.int .i64) .str)))))) a := by first | exact Nat.le_refl _ | (simp only [msr]; omega)
    omega
  unfold laws_eqDb
  simp only [bne_f, sNe_self, beq_self_eq_true, cond_false, Bool.not_true, eqCat_eq _ h0, eqRowsS_eq _ h1]

theorem markDb_eq (a : qF × List qR) (k : Int) (h : msr (.pair (.slice (.pair .str (.pair (.slice (.pair .str (.pair (.int .i64) (.pair .bool (.pair .bool (.pair (.int .i64) (.pair (.int .i64) .str))))))) (.slice .str)))) (.slice (.slice (.slice (.pair (.int .i64) (.pair (.int .i64) .str)))))) a ≤ 1048576) (h0 : 1 ≤ k) (hk : k + (wgtT (.pair (.slice (.pair .str (.pair (.slice (.pair .str (.pair (.int .i64) (.pair .bool (.pair .bool (.pair (.int .i64) (.pair (.int .i64) .str))))))) (.slice .str)))) (.slice (.slice (.slice (.pair (.int .i64) (.pair (.int .i64) .str)))))) a : Int) ≤ 4294967296) (K : Int → qD → Res) : laws_markDb a k K = K (k + (wgtT (.pair (.slice (.pair .str (.pair (.slice (.pair .str (.pair (.int .i64) (.pair .bool (.pair .bool (.pair (.int .i64) (.pair (.int .i64) .str))))))) (.slice .str)))) (.slice (.slice (.slice (.pair (.int .i64) (.pair (.int .i64) .str)))))) a : Int)) (mkT (.pair (.slice (.pair .str (.pair (.slice (.pair .str (.pair (.int .i64) (.pair .bool (.pair .bool (.pair (.int .i64) (.pair (.int .i64) .str))))))) (.slice .str)))) (.slice (.slice (.slice (.pair (.int .i64) (.pair (.int .i64) .str)))))) a k) := by
  have h0 : msr (.slice (.pair .str (.pair (.slice (.pair .str (.pair (.int .i64) (.pair .bool (.pair .bool (.pair (.int .i64) (.pair (.int .i64) .str))))))) (.slice .str)))) a.1 ≤ 1048576 := by
    have : msr (.slice (.pair .str (.pair (.slice (.pair .str (.pair (.int .i64) (.pair .bool (.pair .bool (.pair (.int .i64) (.pair (.int .i64) .str))))))) (.slice .str)))) a.1 ≤ msr (.pair (.slice (.pair .str (.pair (.slice (.pair .str (.pair (.int .i64) (.pair .bool (.pair .bool (.pair (.int .i64) (.pair (.int .i64) .str))))))) (.slice .str)))) (.slice (.slice (.slice (.pair (.int .i64) (.pair (.int .i64) .str)))))) a := by first | exact Nat.le_refl _ | (simp only [msr]; omega)
    omega
  have h1 : msr (.slice (.slice (.slice (.pair (.int .i64) (.pair (.int .i64) .str))))) a.2 ≤ 1048576 := by
    have : msr (.slice (.slice (.slice (.pair (.int .i64) (.pair (.int .i64) .str))))) a.2 ≤ msr (.pair (.slice (.pair .str (.pair (.slice (.pair .str (.pair (.int .i64) (.pair .bool (.pair .bool (.pair (.int .i64) (.pair (.int .i64) .str))))))) (.slice .str)))) (.slice (.slice (.slice (.pair (.int .i64) (.pair (.int .i64) .str)))))) a := by first | exact Nat.le_refl _ | (simp only [msr]; omega)
    omega
  have g0 : msr (.slice (.pair .str (.pair (.slice (.pair .str (.pair (.int .i64) (.pair .bool (.pair .bool (.pair (.int .i64) (.pair (.int .i64) .str))))))) (.slice .str)))) a.1 ≤ 1048576 := by
    have : msr (.slice (.pair .str (.pair (.slice (.pair .str (.pair (.int .i64) (.pair .bool (.pair .bool (.pair (.int .i64) (.pair (.int .i64) .str))))))) (.slice .str)))) a.1 ≤ msr (.pair (.slice (.pair .str (.pair (.slice (.pair .str (.pair (.int .i64) (.pair .bool (.pair .bool (.pair (.int .i64) (.pair (.int .i64) .str))))))) (.slice .str)))) (.slice (.slice (.slice (.pair (.int .i64) (.pair (.int .i64) .str)))))) a := by first | exact Nat.le_refl _ | (simp only [msr]; omega)
    omega
  have g1 : msr (.slice (.slice (.slice (.pair (.int .i64) (.pair (.int .i64) .str))))) a.2 ≤ 1048576 := by
    have : msr (.slice (.slice (.slice (.pair (.int .i64) (.pair (.int .i64) .str))))) a.2 ≤ msr (.pair (.slice (.pair .str (.pair (.slice (.pair .str (.pair (.int .i64) (.pair .bool (.pair .bool (.pair (.int .i64) (.pair (.int .i64) .str))))))) (.slice .str)))) (.slice (.slice (.slice (.pair (.int .i64) (.pair (.int .i64) .str)))))) a := by first | exact Nat.le_refl _ | (simp only [msr]; omega)
    omega
  have hw : wgtT (.pair (.slice (.pair .str (.pair (.slice (.pair .str (.pair (.int .i64) (.pair .bool (.pair .bool (.pair (.int .i64) (.pair (.int .i64) .str))))))) (.slice .str)))) (.slice (.slice (.slice (.pair (.int .i64) (.pair (.int .i64) .str)))))) a = wgt (.slice (.pair .str (.pair (.slice (.pair .str (.pair (.int .i64) (.pair .bool (.pair .bool (.pair (.int .i64) (.pair (.int .i64) .str))))))) (.slice .str)))) a.1 + wgt (.slice (.slice (.slice (.pair (.int .i64) (.pair (.int .i64) .str))))) a.2 := by first | rfl | (simp only [wgtT_pair, wgtT_slice, wgtT_int, wgtT_bool, wgtT_str, Nat.zero_add, Nat.add_zero]; done) | (simp only [wgtT_pair, wgtT_slice, wgtT_int, wgtT_bool, wgtT_str, Nat.zero_add, Nat.add_zero]; omega)
  have w0 : wgtT (.slice (.pair .str (.pair (.slice (.pair .str (.pair (.int .i64) (.pair .bool (.pair .bool (.pair (.int .i64) (.pair (.int .i64) .str))))))) (.slice .str)))) a.1 = wgt (.slice (.pair .str (.pair (.slice (.pair .str (.pair (.int .i64) (.pair .bool (.pair .bool (.pair (.int .i64) (.pair (.int .i64) .str))))))) (.slice .str)))) a.1 := by first | rfl | (simp only [wgtT, wgt]; omega)
  have w1 : wgtT (.slice (.slice (.slice (.pair (.int .i64) (.pair (.int .i64) .str))))) a.2 = wgt (.slice (.slice (.slice (.pair (.int .i64) (.pair (.int .i64) .str))))) a.2 := by first | rfl | (simp only [wgtT, wgt]; omega)
  unfold laws_markDb
  simp (disch := first | assumption | omega) only [markCat_eq, markRowsS_eq]
  first | rfl | (simp only [mkT_pair (.slice (.pair .str (.pair (.slice (.pair .str (.pair (.int .i64) (.pair .bool (.pair .bool (.pair (.int .i64) (.pair (.int .i64) .str))))))) (.slice .str)))) (.slice (.slice (.slice (.pair (.int .i64) (.pair (.int .i64) .str))))), wgtT_pair (.slice (.pair .str (.pair (.slice (.pair .str (.pair (.int .i64) (.pair .bool (.pair .bool (.pair (.int .i64) (.pair (.int .i64) .str))))))) (.slice .str)))) (.slice (.slice (.slice (.pair (.int .i64) (.pair (.int .i64) .str))))), mkT_slice, mkT_int, mkT_bool, mkT_str, wgtT_slice, wgtT_int, wgtT_bool, wgtT_str, Int.natCast_add, Int.natCast_zero, Int.cast_ofNat_Int, Nat.zero_add, Nat.add_zero, Int.add_zero, ← Int.add_assoc]; done) | (simp only [mkT_pair (.slice (.pair .str (.pair (.slice (.pair .str (.pair (.int .i64) (.pair .bool (.pair .bool (.pair (.int .i64) (.pair (.int .i64) .str))))))) (.slice .str)))) (.slice (.slice (.slice (.pair (.int .i64) (.pair (.int .i64) .str))))), wgtT_pair (.slice (.pair .str (.pair (.slice (.pair .str (.pair (.int .i64) (.pair .bool (.pair .bool (.pair (.int .i64) (.pair (.int .i64) .str))))))) (.slice .str)))) (.slice (.slice (.slice (.pair (.int .i64) (.pair (.int .i64) .str))))), mkT_slice, mkT_int, mkT_bool, mkT_str, wgtT_slice, wgtT_int, wgtT_bool, wgtT_str, Int.natCast_add, Int.natCast_zero, Int.cast_ofNat_Int, Nat.zero_add, Nat.add_zero, Int.add_zero, ← Int.add_assoc]; rfl)
end Go.PI.G
namespace Go.PI.G
open Go Go.PI Go.Proofs

def unl (a b : DB) (t : T) : List ByteArray := bif decide (tabAt b.1 t.1 ≥ 0) then (bif tsum a t.1 != tsum b t.1 then [t.1] else []) else []
def unlikeV (a b : DB) : List ByteArray := bif dbB a && dbB b then a.1.flatMap (unl a b) else []
theorem unl_le (a b : DB) (t : T) : (unl a b t).length ≤ 1 := by
  unfold unl
  cases decide (tabAt b.1 t.1 ≥ 0)
  · simp
  · cases tsum a t.1 != tsum b t.1 <;> simp
theorem flat_le1 {α β : Type} (g : α → List β) (h : ∀ x, (g x).length ≤ 1) : (l : List α) → (l.flatMap g).length ≤ l.length
  | [] => Nat.le_refl _
  | x :: l => by
    have := h x
    have := flat_le1 g h l
    rw [List.flatMap_cons, List.length_append, List.length_cons]
    omega
theorem specUnlike_eq (a b : DB) (ha : msr yDB a ≤ 1048576) (hb : msr yDB b ≤ 1048576) (k : List ByteArray → Res) : spec_Unlike a b k = k (unlikeV a b) := by
  obtain ⟨m1, m2, m3, m4, m5⟩ := msr_DB ha
  obtain ⟨n1, n2, n3, n4, n5⟩ := msr_DB hb
  unfold spec_Unlike unlikeV
  rw [specDb_eq a ha, specDb_eq b hb]
  cases da : dbB a
  · rfl
  · cases db : dbB b
    · rfl
    · rw [Bool.not_true, cond_false, cond_false, Bool.true_and, cond_true]
      unfold spec_Unlike_l0
      have := flat_loop a.1 (fun i out => (out, i)) (unl a b) 1048576 [] (step := spec_Unlike_l0_s a.1 (nI a.1.length) a b) (fun out => k out) (fun out => k out) (by unfold LIM; omega) (fun i hi _ => by
        have := flat_le1 _ (unl_le a b) (a.1.take (i + 1))
        rw [List.length_take] at this
        rw [List.nil_append]; omega) (by simp) (fun i out rec hi ho hB => by
        show spec_Unlike_l0_r _ _ a b _ _ _ _ = _
        unfold spec_Unlike_l0_r
        dsimp only
        rw [nI_lt hi, cond_true, inb_nat hi, cond_true, nth_nat _ _ _ hi, specTabAt_eq _ _ (by unfold LIM; omega), specTSum_eq a ha, specTSum_eq b hb, wi64_in (n := (i : Int) + 1) (by omega)]
        unfold unl
        cases decide (tabAt b.1 a.1[i].1 ≥ 0)
        · rw [cond_false, cond_false, List.append_nil]
        · rw [cond_true, cond_true]
          cases tsum a a.1[i].1 != tsum b a.1[i].1
          · rw [cond_false, cond_false, List.append_nil]
          · rw [cond_true, cond_true, lim_of (by unfold LIM; omega), cond_true]) (fun out rec => by
        show spec_Unlike_l0_r _ _ a b _ _ _ _ = _
        unfold spec_Unlike_l0_r
        dsimp only
        rw [nI_ge, cond_false])
      refine this.trans ?_
      rw [List.nil_append]
theorem implUnlike_eq (a b : DB) (ha : msr yDB a ≤ 1048576) (hb : msr yDB b ≤ 1048576) (k : List ByteArray → Res) : impl_Unlike a b k = k (unlikeV a b) := by
  obtain ⟨m1, m2, m3, m4, m5⟩ := msr_DB ha
  obtain ⟨n1, n2, n3, n4, n5⟩ := msr_DB hb
  unfold impl_Unlike unlikeV
  rw [implDb_eq a ha, implDb_eq b hb]
  cases da : dbB a
  · rfl
  · cases db : dbB b
    · rfl
    · rw [Bool.not_true, cond_false, cond_false, Bool.true_and, cond_true]
      unfold impl_Unlike_l0
      have := flat_loop a.1 (fun i out => (out, i)) (unl a b) 1048576 [] (step := impl_Unlike_l0_s a.1 (nI a.1.length) a b) (fun out => k out) (fun out => k out) (by unfold LIM; omega) (fun i hi _ => by
        have := flat_le1 _ (unl_le a b) (a.1.take (i + 1))
        rw [List.length_take] at this
        rw [List.nil_append]; omega) (by simp) (fun i out rec hi ho hB => by
        show impl_Unlike_l0_r _ _ a b _ _ _ _ = _
        unfold impl_Unlike_l0_r
        dsimp only
        rw [nI_lt hi, cond_true, inb_nat hi, cond_true, nth_nat _ _ _ hi, implTabAt_eq _ _ (by unfold LIM; omega), implTSum_eq a ha, implTSum_eq b hb, wi64_in (n := (i : Int) + 1) (by omega)]
        unfold unl
        cases decide (tabAt b.1 a.1[i].1 ≥ 0)
        · rw [cond_false, cond_false, List.append_nil]
        · rw [cond_true, cond_true]
          cases tsum a a.1[i].1 != tsum b a.1[i].1
          · rw [cond_false, cond_false, List.append_nil]
          · rw [cond_true, cond_true, lim_of (by unfold LIM; omega), cond_true]) (fun out rec => by
        show impl_Unlike_l0_r _ _ a b _ _ _ _ = _
        unfold impl_Unlike_l0_r
        dsimp only
        rw [nI_ge, cond_false])
      refine this.trans ?_
      rw [List.nil_append]
theorem msr_le1 {e : Ty} {l : List (El e)} {n B : Nat} (hl : l.length ≤ n) (hx : ∀ x ∈ l, msr e x ≤ B) : msr (.slice e) l ≤ n + n * B := by
  have h1 : msr (.slice e) l = l.length + (l.map (msr e)).sum := rfl
  have h2 : ∀ (l : List (El e)), (∀ x ∈ l, msr e x ≤ B) → (l.map (msr e)).sum ≤ l.length * B := by
    intro l
    induction l with
    | nil => intro _; simp
    | cons x l ih =>
      intro hx
      have e1 := hx x (by simp)
      have e2 := ih fun y hy => hx y (List.mem_cons_of_mem _ hy)
      simp only [List.map_cons, List.sum_cons, List.length_cons]
      rw [Nat.add_mul]; omega
  have h3 := h2 l hx
  have h4 : l.length * B ≤ n * B := Nat.mul_le_mul_right _ hl
  omega
theorem unlikeV_msr (a b : DB) : msr (.slice .str) (unlikeV a b) ≤ 1048576 := by
  unfold unlikeV
  cases da : dbB a
  · exact Nat.zero_le _
  · cases db : dbB b
    · exact Nat.zero_le _
    · obtain ⟨p1, p2, p3⟩ := dbB_parts da
      have hc : a.1.length ≤ 6 := by
        unfold catB at p1
        rw [Bool.and_eq_true, decide_eq_true_eq] at p1
        exact p1.1
      have hl := flat_le1 _ (unl_le a b) a.1
      have := msr_le1 (e := .str) (l := a.1.flatMap (unl a b)) (n := 6) (B := 8) (by omega) (fun x hx => by
        obtain ⟨t, ht, hx⟩ := List.mem_flatMap.1 hx
        obtain ⟨i, hi, rfl⟩ := List.getElem_of_mem ht
        have hw := (tabB_parts (rowsB_parts (p3 i hi (by omega))).1).1
        unfold unl at hx
        cases h1 : decide (tabAt b.1 a.1[i].1 ≥ 0)
        · rw [h1] at hx; cases hx
        · rw [h1, cond_true] at hx
          cases h2 : tsum a a.1[i].1 != tsum b a.1[i].1
          · rw [h2] at hx; cases hx
          · rw [h2, cond_true, List.mem_singleton] at hx
            subst hx
            unfold wordB at hw
            simp only [Bool.and_eq_true, decide_eq_true_eq] at hw
            exact hw.2.2)
      exact Nat.le_trans this (by omega)

theorem row_FnExactUnlike (x0 : DB) (w0 : Wf yDB x0) (x1 : DB) (w1 : Wf yDB x1) (k : Bool → Res) : laws_FnExactUnlike x0 x1 k = k true := by
  unfold laws_FnExactUnlike
  rw [szDb_eq x0 1048576 (by omega) (by omega) w0]
  by_cases hm : ((msr yDB x0 : Nat) : Int) ≤ 1048576
  rotate_left
  · rw [szR_neg hm]; rfl
  have hm' : msr yDB x0 ≤ 1048576 := by omega
  rw [szR_pos hm, decide_eq_false (by omega), cond_false, szDb_eq x1 (1048576 - ((msr yDB x0 : Nat) : Int)) (by omega) (by omega) w1]
  by_cases hn : ((msr yDB x1 : Nat) : Int) ≤ 1048576 - ((msr yDB x0 : Nat) : Int)
  rotate_left
  · rw [szR_neg hn]; rfl
  have hn' : msr yDB x1 ≤ 1048576 := by omega
  rw [szR_pos hn, decide_eq_false (by omega), cond_false, toDb_eq x0 hm', toDb_eq x1 hn', specUnlike_eq x0 x1 hm' hn', toDb_eq x0 hm', toDb_eq x1 hn', implUnlike_eq x0 x1 hm' hn']
  have hq := unlikeV_msr x0 x1
  rw [eqStringS_eq _ hq, Bool.not_true, cond_false, toDb_eq x0 hm', eqDb_eq x0 hm', Bool.not_true, cond_false, toDb_eq x1 hn', eqDb_eq x1 hn', Bool.not_true, cond_false]
  have e0 := wgt_small (τ := yDB) (by decide) hm'
  have e0' := wgtT_le_wgt yDB x0
  have e1 := wgt_small (τ := yDB) (by decide) hn'
  have e1' := wgtT_le_wgt yDB x1
  have e3 := wgt_small (τ := .slice .str) (by decide) hq
  have k0 : (1 : Int) + ((wgtT yDB x0 : Nat) : Int) ≤ 4294967296 := by omega
  have k1 : (1 : Int) + ((wgtT yDB x0 : Nat) : Int) + ((wgtT yDB x1 : Nat) : Int) ≤ 4294967296 := by omega
  have k3 : (1 : Int) + ((wgt (.slice .str) (unlikeV x0 x1) : Nat) : Int) ≤ 4294967296 := by omega
  unfold laws_FnExactUnlike_p0
  rw [markDb_eq x0 1 hm' (by omega) k0, markDb_eq x1 _ hn' (by omega) k1, decide_eq_false (by omega), cond_false, eqStringS_eq _ hq, Bool.not_true, cond_false, markStringS_eq _ 1 hq (by omega) k3, heldStringS_eq _ 1 hq (by omega) k3, decide_eq_false (by omega), cond_false, bne_f, cond_false, toDb_eq x0 hm', toDb_eq x1 hn', implUnlike_eq x0 x1 hm' hn', eqStringS_eq _ hq, Bool.not_true, cond_false, heldStringS_eq _ 1 hq (by omega) k3, decide_eq_false (by omega), cond_false, bne_f, cond_false]
end Go.PI.G
