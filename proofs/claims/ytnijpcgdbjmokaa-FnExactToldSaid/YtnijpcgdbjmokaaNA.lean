/-
  Net: the plain laws. No conditions.
-/
import Derived.Test.YtnijpcgdbjmokaaLA
import Derived.Test.YtnijpcgdbjmokaaPc
set_option linter.unusedVariables false
namespace Go.PI.LA
open Go Go.PI Go.Proofs

theorem bne_f {α : Type} [BEq α] [LawfulBEq α] (n : α) : (n != n) = false := by simp

theorem toByteS_eq (a : List Int) (h : a.length ≤ LIM) (k : List Int → Res) : laws_toByteS a k = k a := by
  unfold laws_toByteS
  rw [mkOk_of h, cond_true]
  have := to_loop (0 : Int) a id (step := laws_toByteS_l0_s a) (fun out => k out) h (fun out i rec hi hl => by
    show laws_toByteS_l0_r a _ _ _ _ = _
    unfold laws_toByteS_l0_r
    rw [nI_lt hi, cond_true, inb_of (by omega) (by omega), cond_true, inb_of (by omega) (by rw [hl]; omega), cond_true, nth_nat _ _ _ hi, upd_nat, wi64_of (by unfold LIM at h; omega) (by unfold LIM at h; omega)]
    rfl) (fun out rec => by
    show laws_toByteS_l0_r a _ _ _ _ = _
    unfold laws_toByteS_l0_r
    rw [nI_ge, cond_false])
  rw [List.map_id] at this
  exact this

theorem toPack_eq (a : List Int) (h : a.length ≤ LIM) (k : List Int → Res) : laws_toPack a k = k a := by
  unfold laws_toPack; rw [toByteS_eq a h]

theorem toPackS_eq (a : List (List Int)) (h : a.length ≤ LIM) (h2 : ∀ x ∈ a, x.length ≤ LIM) (k : List (List Int) → Res) : laws_toPackS a k = k a := by
  unfold laws_toPackS
  rw [mkOk_of h, cond_true]
  have := to_loop ([] : List Int) a id (step := laws_toPackS_l0_s a) (fun out => k out) h (fun out i rec hi hl => by
    show laws_toPackS_l0_r a _ _ _ _ = _
    unfold laws_toPackS_l0_r
    rw [nI_lt hi, cond_true, inb_of (by omega) (by omega), cond_true, nth_nat _ _ _ hi, toPack_eq _ (h2 _ (List.getElem_mem _)), inb_of (by omega) (by rw [hl]; omega), cond_true, upd_nat, wi64_of (by unfold LIM at h; omega) (by unfold LIM at h; omega)]
    rfl) (fun out rec => by
    show laws_toPackS_l0_r a _ _ _ _ = _
    unfold laws_toPackS_l0_r
    rw [nI_ge, cond_false])
  rw [List.map_id] at this
  exact this

theorem toNet_eq (a : List (List Int)) (h : a.length ≤ LIM) (h2 : ∀ x ∈ a, x.length ≤ LIM) (k : List (List Int) → Res) : laws_toNet a k = k a := by
  unfold laws_toNet; rw [toPackS_eq a h h2]

theorem szByteS_eq (a : List Int) (left : Int) (h0 : 0 ≤ left) (h1 : left ≤ 1048576) (ha : a.length ≤ maxLen) (k : Int → Res) : laws_szByteS a left k = k (szR left a.length) := by
  unfold maxLen at ha
  unfold laws_szByteS
  rw [wi64_of (by unfold nI; omega) (by unfold nI; omega)]
  unfold nI
  by_cases h : (a.length : Int) ≤ left
  · rw [szR_pos h, dec_lt_f (by omega), cond_false]
  · rw [szR_neg h, dec_lt_t (by omega), cond_true]

theorem szPack_eq (a : List Int) (left : Int) (h0 : 0 ≤ left) (h1 : left ≤ 1048576) (ha : a.length ≤ maxLen) (k : Int → Res) : laws_szPack a left k = k (szR left a.length) := by
  unfold laws_szPack
  rw [szByteS_eq a left h0 h1 ha]
  by_cases h : (a.length : Int) ≤ left
  · rw [szR_pos h, dec_lt_f (by omega), cond_false]
  · rw [szR_neg h, dec_lt_t (by omega), cond_true]

def bPackS (a : List (List Int)) : Nat := a.length + (a.map List.length).sum

theorem szPackS_eq (a : List (List Int)) (left : Int) (h0 : 0 ≤ left) (h1 : left ≤ 1048576) (ha : a.length ≤ maxLen) (h2 : ∀ x ∈ a, x.length ≤ maxLen) (k : Int → Res) : laws_szPackS a left k = k (szR left (bPackS a)) := by
  unfold laws_szPackS
  rw [wi64_of (by unfold nI maxLen at *; omega) (by unfold nI maxLen at *; omega)]
  unfold nI bPackS
  by_cases h : (a.length : Int) ≤ left
  · rw [dec_lt_f (by omega), cond_false]
    unfold laws_szPackS_l0
    rw [sz_loop List.length a _ (by omega) (fun left i rec hi h0 h1 => ?_) (fun left rec => ?_) _ (by omega) (by omega)]
    · rw [szR_step h]
      by_cases hb : (((a.map List.length).sum : Nat) : Int) ≤ left - a.length
      · rw [if_pos hb, szR_pos hb]
      · rw [if_neg hb, szR_neg hb]
    · show laws_szPackS_l0_r a _ _ _ _ _ = _
      unfold laws_szPackS_l0_r
      rw [nI_lt hi, cond_true, inb_of (by omega) (by omega), cond_true, nth_nat _ _ _ hi, szPack_eq _ _ h0 h1 (h2 _ (List.getElem_mem _)), wi64_of (by omega) (by omega)]
      by_cases hb : (a[i].length : Int) ≤ left
      · rw [if_pos hb, szR_pos hb, dec_lt_f (by omega), cond_false]
      · rw [if_neg hb, szR_neg hb, dec_lt_t (by omega), cond_true]
    · show laws_szPackS_l0_r a _ _ _ _ _ = _
      unfold laws_szPackS_l0_r
      rw [nI_ge, cond_false]
  · rw [dec_lt_t (by omega), cond_true, szR_stop h]

theorem szNet_eq (a : List (List Int)) (left : Int) (h0 : 0 ≤ left) (h1 : left ≤ 1048576) (ha : a.length ≤ maxLen) (h2 : ∀ x ∈ a, x.length ≤ maxLen) (k : Int → Res) : laws_szNet a left k = k (szR left (bPackS a)) := by
  unfold laws_szNet
  rw [szPackS_eq a left h0 h1 ha h2]
  by_cases h : (bPackS a : Int) ≤ left
  · rw [szR_pos h, dec_lt_f (by omega), cond_false]
  · rw [szR_neg h, dec_lt_t (by omega), cond_true]

theorem eqByteS_eq (a : List Int) (h : a.length ≤ LIM) (k : Bool → Res) : laws_eqByteS a a k = k true := by
  unfold laws_eqByteS
  rw [bne_f, cond_false]
  unfold laws_eqByteS_l0
  rw [eq_loop a _ h (fun i rec hi => ?_) (fun rec => ?_)]
  · show laws_eqByteS_l0_r a a _ _ _ _ = _
    unfold laws_eqByteS_l0_r
    rw [nI_lt hi, cond_true, inb_of (by omega) (by omega), cond_true, cond_true, bne_f, cond_false, wi64_of (by unfold LIM at h; omega) (by unfold LIM at h; omega)]
  · show laws_eqByteS_l0_r a a _ _ _ _ = _
    unfold laws_eqByteS_l0_r
    rw [nI_ge, cond_false]

theorem eqPack_eq (a : List Int) (h : a.length ≤ LIM) (k : Bool → Res) : laws_eqPack a a k = k true := by
  unfold laws_eqPack; rw [eqByteS_eq a h]; rfl

theorem eqPackS_eq (a : List (List Int)) (h : a.length ≤ LIM) (h2 : ∀ x ∈ a, x.length ≤ LIM) (k : Bool → Res) : laws_eqPackS a a k = k true := by
  unfold laws_eqPackS
  rw [bne_f, cond_false]
  unfold laws_eqPackS_l0
  rw [eq_loop a _ h (fun i rec hi => ?_) (fun rec => ?_)]
  · show laws_eqPackS_l0_r a a _ _ _ _ = _
    unfold laws_eqPackS_l0_r
    rw [nI_lt hi, cond_true, inb_of (by omega) (by omega), cond_true, cond_true, nth_nat _ _ _ hi, eqPack_eq _ (h2 _ (List.getElem_mem _)), wi64_of (by unfold LIM at h; omega) (by unfold LIM at h; omega)]
    rfl
  · show laws_eqPackS_l0_r a a _ _ _ _ = _
    unfold laws_eqPackS_l0_r
    rw [nI_ge, cond_false]

theorem eqNet_eq (a : List (List Int)) (h : a.length ≤ LIM) (h2 : ∀ x ∈ a, x.length ≤ LIM) (k : Bool → Res) : laws_eqNet a a k = k true := by
  unfold laws_eqNet; rw [eqPackS_eq a h h2]; rfl

/-! ### marks -/
def mkB (a : List Int) (k : Int) : List Int := mkL (fun _ => 1) (fun _ k => wu8 k) a k
def mkN (a : List (List Int)) (k : Int) : List (List Int) := mkL List.length mkB a k
theorem sum_one {α : Type} (a : List α) : (a.map fun _ => 1).sum = a.length := by induction a with
  | nil => rfl
  | cons x l ih => simp [ih]; omega

theorem markByteS_eq (a : List Int) (k : Int) (h : a.length ≤ LIM) (h0 : 0 ≤ k) (hk : k + a.length ≤ 4294967296) (K : Int → List Int → Res) : laws_markByteS a k K = K (k + a.length) (mkB a k) := by
  unfold laws_markByteS laws_markByteS_l0
  have := mark_loop (fun _ => 1) (fun _ k => wu8 k) a k (fun l k i => (l, k, i)) (step := laws_markByteS_l0_s) (fun (a1 : List Int) (k_1 : Int) => K k_1 a1) (fun l k => K k l) h (fun l i rec hi hl hl2 hli => by
    show laws_markByteS_l0_r _ _ _ _ _ = _
    dsimp only
    have := sum_take_le (fun _ => 1) a i
    rw [sum_one a] at this
    unfold laws_markByteS_l0_r
    unfold LIM at h
    rw [nI_lt hl2, cond_true, inb_of (by omega) (by omega), cond_true, upd_nat, wi64_of (n := (i : Int) + 1) (by omega) (by omega), wi64_of (by omega) (by omega)]
    rfl) (fun l k rec hl => by
    show laws_markByteS_l0_r _ _ _ _ _ = _
    dsimp only
    unfold laws_markByteS_l0_r
    rw [← hl, nI_ge, cond_false])
  rw [sum_one] at this
  exact this

theorem heldByteS_eq (a : List Int) (k : Int) (h : a.length ≤ LIM) (h0 : 0 ≤ k) (hk : k + a.length ≤ 4294967296) (K : Int → Res) : laws_heldByteS (mkB a k) k K = K (k + a.length) := by
  unfold laws_heldByteS laws_heldByteS_l0
  have hlen : (mkB a k).length = a.length := mkL_len _ _ _ _
  have := held_loop (fun _ => 1) a k (fun k i => (k, i)) (step := laws_heldByteS_l0_s (mkB a k)) ((fun (k_1 : Int) => K k_1), (fun (_ : Unit) => K (-1))) (fun k => K k) h (fun i rec hi => by
    show laws_heldByteS_l0_r _ _ _ _ _ _ = _
    dsimp only
    have := sum_take_le (fun _ => 1) a i
    rw [sum_one a] at this
    have hi' : i < (mkB a k).length := by omega
    unfold laws_heldByteS_l0_r
    unfold LIM at h
    have hg : (mkB a k)[i] = wu8 (k + (((a.take i).map fun _ => 1).sum : Nat)) := mkL_get _ _ a k i hi hi'
    rw [nI_lt hi', cond_true, inb_of (by omega) (by omega), cond_true, nth_nat _ _ _ hi', hg, bne_f, cond_false, wi64_of (n := (i : Int) + 1) (by omega) (by omega), wi64_of (by omega) (by omega)]
    rfl) (fun k' rec => by
    show laws_heldByteS_l0_r _ _ _ _ _ _ = _
    dsimp only
    unfold laws_heldByteS_l0_r
    rw [← hlen, nI_ge, cond_false])
  rw [sum_one] at this
  exact this

theorem markPackS_eq (a : List (List Int)) (k : Int) (h : bPackS a ≤ LIM) (h0 : 0 ≤ k) (hk : k + bPackS a ≤ 4294967296) (K : Int → List (List Int) → Res) : laws_markPackS a k K = K (k + ((a.map List.length).sum : Nat)) (mkN a k) := by
  unfold laws_markPackS laws_markPackS_l0
  unfold bPackS at h hk
  have := mark_loop List.length mkB a k (fun l k i => (l, k, i)) (step := laws_markPackS_l0_s) (fun (a1 : List (List Int)) (k_1 : Int) => K k_1 a1) (fun l k => K k l) (by omega) (fun l i rec hi hl hl2 hli => by
    show laws_markPackS_l0_r _ _ _ _ _ = _
    dsimp only
    have h1 := sum_take_le List.length a (i + 1)
    rw [sum_take _ _ _ hi] at h1
    unfold laws_markPackS_l0_r
    unfold LIM at h
    rw [nI_lt hl2, cond_true, inb_of (by omega) (by omega), cond_true, nth_nat _ _ _ hl2, hli, markByteS_eq _ _ (by unfold LIM; omega) (by omega) (by omega), upd_nat, wi64_of (n := (i : Int) + 1) (by omega) (by omega)]
    ) (fun l k rec hl => by
    show laws_markPackS_l0_r _ _ _ _ _ = _
    dsimp only
    unfold laws_markPackS_l0_r
    rw [← hl, nI_ge, cond_false])
  exact this

theorem heldPackS_eq (a : List (List Int)) (k : Int) (h : bPackS a ≤ LIM) (h0 : 0 ≤ k) (hk : k + bPackS a ≤ 4294967296) (K : Int → Res) : laws_heldPackS (mkN a k) k K = K (k + ((a.map List.length).sum : Nat)) := by
  unfold laws_heldPackS laws_heldPackS_l0
  unfold bPackS at h hk
  have hlen : (mkN a k).length = a.length := mkL_len _ _ _ _
  have := held_loop List.length a k (fun k i => (k, i)) (step := laws_heldPackS_l0_s (mkN a k)) ((fun (k_1 : Int) => K k_1), (fun (_ : Unit) => K (-1))) (fun k => K k) (by omega) (fun i rec hi => by
    show laws_heldPackS_l0_r _ _ _ _ _ _ = _
    dsimp only
    have h1 := sum_take_le List.length a (i + 1)
    rw [sum_take _ _ _ hi] at h1
    have hi' : i < (mkN a k).length := by omega
    unfold laws_heldPackS_l0_r
    unfold LIM at h
    have hg : (mkN a k)[i] = mkB a[i] (k + (((a.take i).map List.length).sum : Nat)) := mkL_get _ _ a k i hi hi'
    rw [nI_lt hi', cond_true, inb_of (by omega) (by omega), cond_true, nth_nat _ _ _ hi', hg, heldByteS_eq _ _ (by unfold LIM; omega) (by omega) (by omega), dec_lt_f (by omega), cond_false, wi64_of (n := (i : Int) + 1) (by omega) (by omega)]
    ) (fun k' rec => by
    show laws_heldPackS_l0_r _ _ _ _ _ _ = _
    dsimp only
    unfold laws_heldPackS_l0_r
    rw [← hlen, nI_ge, cond_false])
  exact this

theorem markNet_eq (a : List (List Int)) (k : Int) (h : bPackS a ≤ LIM) (h0 : 0 ≤ k) (hk : k + bPackS a ≤ 4294967296) (K : Int → List (List Int) → Res) : laws_markNet a k K = K (k + ((a.map List.length).sum : Nat)) (mkN a k) := by
  unfold laws_markNet; rw [markPackS_eq a k h h0 hk]
theorem heldNet_eq (a : List (List Int)) (k : Int) (h : bPackS a ≤ LIM) (h0 : 0 ≤ k) (hk : k + bPackS a ≤ 4294967296) (K : Int → Res) : laws_heldNet (mkN a k) k K = K (k + ((a.map List.length).sum : Nat)) := by
  unfold laws_heldNet
  rw [heldPackS_eq a k h h0 hk, dec_lt_f (by omega), cond_false]
theorem markPack_eq (a : List Int) (k : Int) (h : a.length ≤ LIM) (h0 : 0 ≤ k) (hk : k + a.length ≤ 4294967296) (K : Int → List Int → Res) : laws_markPack a k K = K (k + a.length) (mkB a k) := by
  unfold laws_markPack; rw [markByteS_eq a k h h0 hk]
theorem heldPack_eq (a : List Int) (k : Int) (h : a.length ≤ LIM) (h0 : 0 ≤ k) (hk : k + a.length ≤ 4294967296) (K : Int → Res) : laws_heldPack (mkB a k) k K = K (k + a.length) := by
  unfold laws_heldPack
  rw [heldByteS_eq a k h h0 hk, dec_lt_f (by omega), cond_false]
end Go.PI.LA
