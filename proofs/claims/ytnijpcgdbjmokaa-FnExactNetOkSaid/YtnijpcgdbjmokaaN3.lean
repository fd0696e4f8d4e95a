/-
  NetOk: the plain law and the row. No conditions.
-/
import Derived.Test.YtnijpcgdbjmokaaL3
import Derived.Test.YtnijpcgdbjmokaaPc
import Derived.Test.YtnijpcgdbjmokaaRows
set_option linter.unusedVariables false
namespace Go.PI.L3
open Go Go.PI Go.Proofs

theorem toByteS_eq (a : List Int) (h : a.length ≤ LIM) (k : List Int → Res) : laws_toByteS a k = k a := by
  unfold laws_toByteS
  rw [mkOk_of h, cond_true]
  have := to_loop (0 : Int) a id (step := laws_toByteS_l0_s a) (fun out => k out) h (fun out i rec hi hl => by
    show laws_toByteS_l0_r a _ _ _ _ = _
    unfold laws_toByteS_l0_r
    rw [nI_lt hi, cond_true, inb_of (by omega) (by omega), cond_true, inb_of (by omega) (by rw [hl]; omega), cond_true, nth_nat _ _ _ hi, upd_nat, wi64_of (by unfold LIM at h; omega) (by unfold LIM at h; omega)]
    rfl) (fun out rec => by
    show laws_toByteS_l0_r a _ _ _ _ = _
    unfold laws_toByteS_l0_r
    rw [nI_ge, cond_false])
  rw [List.map_id] at this
  exact this

theorem toPack_eq (a : List Int) (h : a.length ≤ LIM) (k : List Int → Res) : laws_toPack a k = k a := by
  unfold laws_toPack; rw [toByteS_eq a h]

theorem toPackS_eq (a : List (List Int)) (h : a.length ≤ LIM) (h2 : ∀ x ∈ a, x.length ≤ LIM) (k : List (List Int) → Res) : laws_toPackS a k = k a := by
  unfold laws_toPackS
  rw [mkOk_of h, cond_true]
  have := to_loop ([] : List Int) a id (step := laws_toPackS_l0_s a) (fun out => k out) h (fun out i rec hi hl => by
    show laws_toPackS_l0_r a _ _ _ _ = _
    unfold laws_toPackS_l0_r
    rw [nI_lt hi, cond_true, inb_of (by omega) (by omega), cond_true, nth_nat _ _ _ hi, toPack_eq _ (h2 _ (List.getElem_mem _)), inb_of (by omega) (by rw [hl]; omega), cond_true, upd_nat, wi64_of (by unfold LIM at h; omega) (by unfold LIM at h; omega)]
    rfl) (fun out rec => by
    show laws_toPackS_l0_r a _ _ _ _ = _
    unfold laws_toPackS_l0_r
    rw [nI_ge, cond_false])
  rw [List.map_id] at this
  exact this

theorem toNet_eq (a : List (List Int)) (h : a.length ≤ LIM) (h2 : ∀ x ∈ a, x.length ≤ LIM) (k : List (List Int) → Res) : laws_toNet a k = k a := by
  unfold laws_toNet; rw [toPackS_eq a h h2]

theorem szByteS_eq (a : List Int) (left : Int) (h0 : 0 ≤ left) (h1 : left ≤ 1048576) (ha : a.length ≤ maxLen) (k : Int → Res) : laws_szByteS a left k = k (szR left a.length) := by
  unfold maxLen at ha
  unfold laws_szByteS
  rw [wi64_of (by unfold nI; omega) (by unfold nI; omega)]
  unfold nI
  by_cases h : (a.length : Int) ≤ left
  · rw [szR_pos h, dec_lt_f (by omega), cond_false]
  · rw [szR_neg h, dec_lt_t (by omega), cond_true]

theorem szPack_eq (a : List Int) (left : Int) (h0 : 0 ≤ left) (h1 : left ≤ 1048576) (ha : a.length ≤ maxLen) (k : Int → Res) : laws_szPack a left k = k (szR left a.length) := by
  unfold laws_szPack
  rw [szByteS_eq a left h0 h1 ha]
  by_cases h : (a.length : Int) ≤ left
  · rw [szR_pos h, dec_lt_f (by omega), cond_false]
  · rw [szR_neg h, dec_lt_t (by omega), cond_true]

def bPackS (a : List (List Int)) : Nat := a.length + (a.map List.length).sum

theorem szPackS_eq (a : List (List Int)) (left : Int) (h0 : 0 ≤ left) (h1 : left ≤ 1048576) (ha : a.length ≤ maxLen) (h2 : ∀ x ∈ a, x.length ≤ maxLen) (k : Int → Res) : laws_szPackS a left k = k (szR left (bPackS a)) := by
  unfold laws_szPackS
  rw [wi64_of (by unfold nI maxLen at *; omega) (by unfold nI maxLen at *; omega)]
  unfold nI bPackS
  by_cases h : (a.length : Int) ≤ left
  · rw [dec_lt_f (by omega), cond_false]
    unfold laws_szPackS_l0
    rw [sz_loop List.length a _ (by omega) (fun left i rec hi h0 h1 => ?_) (fun left rec => ?_) _ (by omega) (by omega)]
    · rw [szR_step h]
      by_cases hb : (((a.map List.length).sum : Nat) : Int) ≤ left - a.length
      · rw [if_pos hb, szR_pos hb]
      · rw [if_neg hb, szR_neg hb]
    · show laws_szPackS_l0_r a _ _ _ _ _ = _
      unfold laws_szPackS_l0_r
      rw [nI_lt hi, cond_true, inb_of (by omega) (by omega), cond_true, nth_nat _ _ _ hi, szPack_eq _ _ h0 h1 (h2 _ (List.getElem_mem _)), wi64_of (by omega) (by omega)]
      by_cases hb : (a[i].length : Int) ≤ left
      · rw [if_pos hb, szR_pos hb, dec_lt_f (by omega), cond_false]
      · rw [if_neg hb, szR_neg hb, dec_lt_t (by omega), cond_true]
    · show laws_szPackS_l0_r a _ _ _ _ _ = _
      unfold laws_szPackS_l0_r
      rw [nI_ge, cond_false]
  · rw [dec_lt_t (by omega), cond_true, szR_stop h]

theorem szNet_eq (a : List (List Int)) (left : Int) (h0 : 0 ≤ left) (h1 : left ≤ 1048576) (ha : a.length ≤ maxLen) (h2 : ∀ x ∈ a, x.length ≤ maxLen) (k : Int → Res) : laws_szNet a left k = k (szR left (bPackS a)) := by
  unfold laws_szNet
  rw [szPackS_eq a left h0 h1 ha h2]
  by_cases h : (bPackS a : Int) ≤ left
  · rw [szR_pos h, dec_lt_f (by omega), cond_false]
  · rw [szR_neg h, dec_lt_t (by omega), cond_true]

theorem eqByteS_eq (a : List Int) (h : a.length ≤ LIM) (k : Bool → Res) : laws_eqByteS a a k = k true := by
  unfold laws_eqByteS
  have hne : ∀ n : Int, (n != n) = false := fun n => by simp
  rw [hne, cond_false]
  unfold laws_eqByteS_l0
  rw [eq_loop a _ h (fun i rec hi => ?_) (fun rec => ?_)]
  · show laws_eqByteS_l0_r a a _ _ _ _ = _
    unfold laws_eqByteS_l0_r
    rw [nI_lt hi, cond_true, inb_of (by omega) (by omega), cond_true, cond_true, hne, cond_false, wi64_of (by unfold LIM at h; omega) (by unfold LIM at h; omega)]
  · show laws_eqByteS_l0_r a a _ _ _ _ = _
    unfold laws_eqByteS_l0_r
    rw [nI_ge, cond_false]

theorem eqPack_eq (a : List Int) (h : a.length ≤ LIM) (k : Bool → Res) : laws_eqPack a a k = k true := by
  unfold laws_eqPack; rw [eqByteS_eq a h]; rfl

theorem eqPackS_eq (a : List (List Int)) (h : a.length ≤ LIM) (h2 : ∀ x ∈ a, x.length ≤ LIM) (k : Bool → Res) : laws_eqPackS a a k = k true := by
  unfold laws_eqPackS
  have hne : ∀ n : Int, (n != n) = false := fun n => by simp
  rw [hne, cond_false]
  unfold laws_eqPackS_l0
  rw [eq_loop a _ h (fun i rec hi => ?_) (fun rec => ?_)]
  · show laws_eqPackS_l0_r a a _ _ _ _ = _
    unfold laws_eqPackS_l0_r
    rw [nI_lt hi, cond_true, inb_of (by omega) (by omega), cond_true, cond_true, nth_nat _ _ _ hi, eqPack_eq _ (h2 _ (List.getElem_mem _)), wi64_of (by unfold LIM at h; omega) (by unfold LIM at h; omega)]
    rfl
  · show laws_eqPackS_l0_r a a _ _ _ _ = _
    unfold laws_eqPackS_l0_r
    rw [nI_ge, cond_false]

theorem eqNet_eq (a : List (List Int)) (h : a.length ≤ LIM) (h2 : ∀ x ∈ a, x.length ≤ LIM) (k : Bool → Res) : laws_eqNet a a k = k true := by
  unfold laws_eqNet; rw [eqPackS_eq a h h2]; rfl

theorem le_sum {α : Type} (b : α → Nat) : (l : List α) → ∀ x ∈ l, b x ≤ (l.map b).sum
  | y :: l, x, h => by
    rcases List.mem_cons.1 h with rfl | h
    · simp
    · have := le_sum b l x h
      simp; omega

theorem netOk (a : List (List Int)) (ha : a.length ≤ maxLen) (h2 : ∀ x ∈ a, x.length ≤ maxLen) (k : Bool → Res) : laws_FnExactNetOk a k = k true := by
  unfold laws_FnExactNetOk
  rw [szNet_eq a 1048576 (by omega) (by omega) ha h2]
  by_cases h : (bPackS a : Int) ≤ 1048576
  · rw [szR_pos h, dec_lt_f (by omega), cond_false]
    have hl : a.length ≤ LIM := by unfold LIM; unfold bPackS at h; omega
    have hl2 : ∀ x ∈ a, x.length ≤ LIM := fun x hx => by
      have := le_sum List.length a x hx
      unfold LIM; unfold bPackS at h; omega
    simp only [toNet_eq a hl hl2, spec_NetOk, impl_NetOk, eqNet_eq a hl hl2]
    simp
  · rw [szR_neg h, dec_lt_t (by omega), cond_true]
end Go.PI.L3
