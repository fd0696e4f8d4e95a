/-
  What the exact laws do with a kind of argument. Lemmas; no conditions.
-/
import Derived.Test.YtcapkiofiipamaaGRNText
import Derived.Test.YtcapkiofiipamaaGRTStringS
set_option linter.unusedVariables false
set_option linter.unusedSimpArgs false
set_option maxRecDepth 10000
namespace Go.PI.G
open Go Go.PI Go.Proofs

theorem toStringS_eq (a : (List ByteArray)) (h : msr (.slice .str) a ≤ 1048576) (k : (List ByteArray) → Res) : laws_toStringS a k = k a := by
  have hl : a.length ≤ 1048576 := msr_len h
  unfold laws_toStringS
  rw [mkOk_of (by unfold LIM; omega), cond_true]
  have := to_loop (eS) a id (step := laws_toStringS_l0_s a) (fun out => k out) (by unfold LIM; omega) (fun out i rec hi hlo => by
    show laws_toStringS_l0_r a _ _ _ _ = _
    unfold laws_toStringS_l0_r
    dsimp only
    simp only [nI_lt hi, cond_true, inb_nat hi, inb_nat (show i < out.length by omega), nth_nat _ _ _ hi, upd_nat, wi64_in (n := (i : Int) + 1) (by omega)]
    rfl) (fun out rec => by
    show laws_toStringS_l0_r a _ _ _ _ = _
    unfold laws_toStringS_l0_r
    dsimp only
    rw [nI_ge, cond_false])
  rw [List.map_id] at this
  exact this

theorem szStringS_eq (a : (List ByteArray)) (left : Int) (h0 : 0 ≤ left) (h1 : left ≤ 1048576) (hw : Wf (.slice .str) a) (k : Int → Res) : laws_szStringS a left k = k (szR left (msr (.slice .str) a)) := by
  have hl : a.length ≤ maxLen := hw.1
  have hm : msr (.slice .str) a = a.length + (a.map (msr .str)).sum := rfl
  rw [hm]
  unfold laws_szStringS
  refine sz_str (F := fun q => laws_szStringS_l0 a FUEL q 0 (fun left1 => k left1) (fun _ => k (-1))) (k := k) h0 h1 hl fun hb => ?_
  unfold laws_szStringS_l0
  rw [sz_loop (msr .str) a _ (by omega) (fun left i rec hi h0 h1 => ?_) (fun left rec => ?_) _ (by omega) (by omega)]
  · by_cases hb : (((a.map (msr .str)).sum : Nat) : Int) ≤ left - a.length
    · rw [if_pos hb, szR_pos hb]
    · rw [if_neg hb, szR_neg hb]
  · show laws_szStringS_l0_r a _ _ _ _ _ = _
    have hx := hw.2 _ (List.getElem_mem hi)
    unfold laws_szStringS_l0_r
    have hx : a[i].size ≤ maxLen := hx
    unfold maxLen at hx hl
    rw [nI_lt hi, cond_true, inb_nat hi, cond_true, nth_nat _ _ _ hi, wi64_in (n := left - nI a[i].size) (by unfold nI; omega), wi64_in (n := (i : Int) + 1) (by omega)]
    unfold nI
    by_cases hb : ((msr .str a[i] : Nat) : Int) ≤ left
    · have hb' : (a[i].size : Int) ≤ left := hb
      rw [if_pos hb, dec_lt_f (by omega), cond_false]; rfl
    · have hb' : ¬ (a[i].size : Int) ≤ left := hb
      rw [if_neg hb, dec_lt_t (by omega), cond_true]
  · show laws_szStringS_l0_r a _ _ _ _ _ = _
    unfold laws_szStringS_l0_r
    rw [nI_ge, cond_false]

theorem eqStringS_eq (a : (List ByteArray)) (h : msr (.slice .str) a ≤ 1048576) (k : Bool → Res) : laws_eqStringS a a k = k true := by
  have hl : a.length ≤ 1048576 := msr_len h
  unfold laws_eqStringS
  rw [bne_f, cond_false]
  unfold laws_eqStringS_l0
  rw [eq_loop a _ (by unfold LIM; omega) (fun i rec hi => ?_) (fun rec => ?_)]
  · show laws_eqStringS_l0_r a a _ _ _ _ = _
    unfold laws_eqStringS_l0_r
    simp only [nI_lt hi, cond_true, inb_nat hi, nth_nat _ _ _ hi, wi64_in (n := (i : Int) + 1) (by omega), bne_f, sNe_self, cond_false, Bool.not_true]
  · show laws_eqStringS_l0_r a a _ _ _ _ = _
    unfold laws_eqStringS_l0_r
    rw [nI_ge, cond_false]

theorem markStringS_eq (a : (List ByteArray)) (k : Int) (h : msr (.slice .str) a ≤ 1048576) (h0 : 1 ≤ k) (hk : k + (wgt (.slice .str) a : Int) ≤ 4294967296) (K : Int → (List ByteArray) → Res) : laws_markStringS a k K = K (k + (wgt (.slice .str) a : Int)) (mkL (wgt .str) (mk .str) a k) := by
  have hl : a.length ≤ 1048576 := msr_len h
  have hwg : wgt (.slice .str) a = (a.map (wgt .str)).sum := rfl
  rw [hwg] at hk ⊢
  unfold laws_markStringS laws_markStringS_l0
  have := mark_loop (wgt .str) (mk .str) a k (fun l k i => (l, k, i)) (step := laws_markStringS_l0_s) (fun l k => K k l) (fun l k => K k l) (by unfold LIM; omega) (fun l i rec hi hll hli hla => by
    have e1 := sum_take (wgt .str) a i hi
    have e2 := sum_take_le (wgt .str) a (i + 1)
    generalize hκ : k + ((((a.take i).map (wgt .str)).sum : Nat) : Int) = κ
    have hκ1 : 1 ≤ κ ∧ κ + (wgt .str a[i] : Int) ≤ 4294967296 := by omega
    have hw : (wgt .str a[i] : Int) = 1 := by
      have : wgt .str a[i] = 1 := by first | rfl | (simp only [wgt]; done) | (simp only [wgt]; omega)
      first | rfl | omega
    show laws_markStringS_l0_r _ _ _ _ _ = _
    dsimp only
    unfold laws_markStringS_l0_r
    rw [← hll] at hi
    have hi' : i < a.length := by omega
    simp (disch := first | assumption | omega) only [show nI a.length = nI l.length by rw [hll], nI_lt, inb_nat, upd_len, cond_true, nth_upd, upd_upd, nth_nat, hla, wi64_in, markText_eq, ← hll]
    rw [upd_nat]
    congr 3 <;> first | rfl | omega | skip) (fun l k rec hll => by
    show laws_markStringS_l0_r _ _ _ _ _ = _
    dsimp only
    unfold laws_markStringS_l0_r
    rw [← hll, nI_ge, cond_false])
  exact this

theorem heldStringS_eq (a : (List ByteArray)) (k : Int) (h : msr (.slice .str) a ≤ 1048576) (h0 : 1 ≤ k) (hk : k + (wgt (.slice .str) a : Int) ≤ 4294967296) (K : Int → Res) : laws_heldStringS (mkL (wgt .str) (mk .str) a k) k K = K (k + (wgt (.slice .str) a : Int)) := by
  have hl : a.length ≤ 1048576 := msr_len h
  have hwg : wgt (.slice .str) a = (a.map (wgt .str)).sum := rfl
  rw [hwg] at hk ⊢
  have hll := mkL_len (wgt .str) (mk .str) a k
  have hg := mkL_get (wgt .str) (mk .str) a k
  generalize mkL (wgt .str) (mk .str) a k = l at hll hg
  unfold laws_heldStringS laws_heldStringS_l0
  have := held_loop (wgt .str) a k (fun k i => (k, i)) (step := laws_heldStringS_l0_s l) ((fun (k_1 : Int) => K k_1), (fun (_ : Unit) => K (-1))) (fun k => K k) (by unfold LIM; omega) (fun i rec hi => by
    have e1 := sum_take (wgt .str) a i hi
    have e2 := sum_take_le (wgt .str) a (i + 1)
    have hgi := hg i hi (by omega)
    generalize hκ : k + ((((a.take i).map (wgt .str)).sum : Nat) : Int) = κ at hgi
    have hκ1 : 1 ≤ κ ∧ κ + (wgt .str a[i] : Int) ≤ 4294967296 := by omega
    have hw : (wgt .str a[i] : Int) = 1 := by
      have : wgt .str a[i] = 1 := by first | rfl | (simp only [wgt]; done) | (simp only [wgt]; omega)
      first | rfl | omega
    show laws_heldStringS_l0_r _ _ _ _ _ _ = _
    dsimp only
    unfold laws_heldStringS_l0_r
    have hi' : i < l.length := by omega
    simp (disch := first | assumption | omega) only [nI_lt, inb_nat, cond_true, cond_false, nth_nat, hgi, mk_pair, mk_slice, mk_i64, mk_u8, mk_bool, mk_str, wgt_pair, wgt_int, wgt_bool, wgt_str, Int.natCast_add, Int.natCast_one, ← Int.add_assoc, wi64_in, markText_eq, bne_f, sNe_self, beq_self_eq_true, Bool.not_true, dec_lt_f]
    all_goals (congr 2; omega)) (fun k rec => by
    show laws_heldStringS_l0_r _ _ _ _ _ _ = _
    dsimp only
    unfold laws_heldStringS_l0_r
    rw [← hll, nI_ge, cond_false])
  exact this
end Go.PI.G
