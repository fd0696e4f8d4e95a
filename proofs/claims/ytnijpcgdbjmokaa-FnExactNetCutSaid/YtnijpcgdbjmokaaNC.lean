/-
  Net: cut, send, take: the plain laws. No conditions.
-/
import Derived.Test.YtnijpcgdbjmokaaNB
set_option linter.unusedVariables false
namespace Go.PI.LA
open Go Go.PI Go.Proofs

theorem clamp {n : Int} {L : Nat} : mxI 0 (mnI n (nI L)) = if n < 0 then 0 else if n > nI L then nI L else n := by
  unfold mxI mnI nI
  repeat' split
  all_goals omega
def cutPF (p : List Int) (n : Int) : List Int := sub p 0 (mxI 0 (mnI n (nI p.length)))
theorem cutPF_len (p : List Int) (n : Int) : (cutPF p n).length ≤ p.length := by
  unfold cutPF sub
  simp
  omega
theorem cutb_of {j : Int} {n : Nat} (h : 0 ≤ j) (h2 : j ≤ nI n) : cutb 0 j n = true := by
  unfold cutb nI at *; exact decide_eq_true ⟨by omega, by omega, by omega⟩
theorem implCut_eq (p : List Int) (n : Int) (h : p.length ≤ LIM) (k : List Int → Res) : impl_PackCut p n k = k (cutPF p n) := by
  unfold impl_PackCut
  have hL := cutPF_len p n
  unfold cutPF at hL
  rw [cutb_of (by rw [clamp]; unfold nI; split <;> (try split) <;> omega) (by rw [clamp]; unfold nI; split <;> (try split) <;> omega), cond_true, lim_of (by omega), cond_true]
  rfl
theorem specCut_eq (p : List Int) (n : Int) (h : p.length ≤ LIM) (k : List Int → Res) : spec_PackCut p n k = k (cutPF p n) := by
  have hi := implCut_eq p n h k
  refine Eq.trans ?_ hi
  unfold spec_PackCut spec_PackCut_p0 impl_PackCut
  rw [clamp]
  by_cases h1 : n < 0
  · rw [dec_lt_t h1, cond_true, if_pos h1]
    dsimp only
    have : decide ((0 : Int) > nI p.length) = false := decide_eq_false (by unfold nI; omega)
    rw [this, cond_false]
  · rw [dec_lt_f h1, cond_false, if_neg h1]
    dsimp only
    by_cases h2 : n > nI p.length
    · rw [decide_eq_true h2, cond_true, if_pos h2]
    · rw [decide_eq_false h2, cond_false, if_neg h2]

theorem sum_set {α : Type} (f : α → Nat) (v : α) : (l : List α) → (i : Nat) → (h : i < l.length) → f v ≤ f l[i] → ((l.set i v).map f).sum ≤ (l.map f).sum
  | [], i, h, _ => by simp at h
  | x :: l, 0, h, hv => by
    simp only [List.getElem_cons_zero] at hv
    simp only [List.set_cons_zero, List.map_cons, List.sum_cons]; omega
  | x :: l, i + 1, h, hv => by
    have := sum_set f v l i (by simpa using h) (by simpa using hv)
    simp only [List.set_cons_succ, List.map_cons, List.sum_cons]; omega
theorem upd_b (n : List (List Int)) (i : Int) (v : List Int) (h : 0 ≤ i ∧ i < nI n.length) (hv : v.length ≤ (nth [] n i).length) : bPackS (upd n i v) ≤ bPackS n := by
  obtain ⟨j, rfl⟩ := Int.eq_ofNat_of_zero_le h.1
  have hj : j < n.length := by unfold nI at h; omega
  have h1 : nth [] n (j : Int) = n[j] := nth_nat _ _ _ hj
  have hv' : v.length ≤ n[j].length := by rw [← h1]; exact hv
  show bPackS (upd n (j : Int) v) ≤ _
  rw [upd_nat]
  have := sum_set List.length v n j hj hv'
  unfold bPackS
  rw [List.length_set]
  omega

def cutF (n : List (List Int)) (i j : Int) : List (List Int) := bif decide (nI n.length ≤ 30) then (bif decide (0 ≤ i ∧ i < nI n.length) then upd n i (cutPF (nth [] n i) j) else n) else []
theorem netCut (a : List (List Int)) (i j : Int) (ha : a.length ≤ maxLen) (h2 : ∀ x ∈ a, x.length ≤ maxLen) (k : Bool → Res) : laws_FnExactNetCut a i j k = k true := by
  rw [cut_shape]
  refine shape_true a ha h2 (fun h => ⟨cutF a i j, ?_, ?_, ?_⟩) k
  · unfold cutF
    cases decide (nI a.length ≤ 30)
    · simp [bPackS]
    · rw [cond_true]
      by_cases hp : 0 ≤ i ∧ i < nI a.length
      · rw [decide_eq_true hp, cond_true]
        have := upd_b a i (cutPF (nth [] a i) j) hp (cutPF_len _ _)
        omega
      · rw [decide_eq_false hp, cond_false]; omega
  · intro k
    show spec_NetCut a i j k = _
    unfold spec_NetCut cutF
    rw [specLose_eq a _ (by unfold LIM; omega)]
    unfold loseF
    cases decide (nI a.length ≤ 30)
    · rw [cond_false, cond_false, place_iff]
      have : ¬ (0 ≤ i ∧ i < nI ([] : List (List Int)).length) := by unfold nI; simp
      dsimp only
      rw [decide_eq_false this, cond_false]
    · rw [cond_true, cond_true, butF_all, place_iff]
      dsimp only
      by_cases hp : 0 ≤ i ∧ i < nI a.length
      · have := nth_len a i hp
        rw [decide_eq_true hp, cond_true, cond_true, inb_of hp.1 hp.2, cond_true, specCut_eq _ _ (by unfold LIM; omega), cond_true]
      · rw [decide_eq_false hp, cond_false, cond_false]
  · intro k
    show impl_NetCut a i j k = _
    unfold impl_NetCut impl_NetOk cutF
    cases decide (nI a.length ≤ 30)
    · rfl
    · dsimp only
      rw [Bool.not_true, cond_false, copyNet_eq a (by unfold LIM; omega), has_iff, cond_true]
      dsimp only
      by_cases hp : 0 ≤ i ∧ i < nI a.length
      · have := nth_len a i hp
        rw [decide_eq_true hp, cond_true, cond_true, inb_of hp.1 hp.2, cond_true, implCut_eq _ _ (by unfold LIM; omega), cond_true]
      · rw [decide_eq_false hp, cond_false, cond_false]

/-! ### send -/
theorem netSend (a : List (List Int)) (p : List Int) (ha : a.length ≤ maxLen) (h2 : ∀ x ∈ a, x.length ≤ maxLen) (hp : p.length ≤ maxLen) (k : Bool → Res) : laws_FnExactNetSend a p k = k true := by
  unfold laws_FnExactNetSend
  rw [szNet_eq a 1048576 (by omega) (by omega) ha h2]
  by_cases h : (bPackS a : Int) ≤ 1048576
  · rw [szR_pos h, dec_lt_f (by omega), cond_false, szPack_eq p _ (by omega) (by omega) hp]
    by_cases h3 : (p.length : Int) ≤ 1048576 - bPackS a
    · rw [szR_pos h3, dec_lt_f (by omega), cond_false]
      have hbl : bPackS a ≤ LIM := by unfold LIM; omega
      have hpl : p.length ≤ LIM := by unfold LIM; omega
      obtain ⟨hl, hl2⟩ := bLen hbl
      have hsum : bPackS a + p.length < LIM := by unfold LIM; omega
      have hvb := sendF_b a p
      have hvl : bPackS (sendF a p) ≤ LIM := by unfold LIM; omega
      obtain ⟨vl, vl2⟩ := bLen hvl
      have p0 : ∀ K, laws_FnExactNetSend_p0 a p K = K (sendF a p) := fun K => by
        unfold laws_FnExactNetSend_p0
        simp only [toNet_eq a hl hl2, toPack_eq p hpl, specSend_eq a p hsum, both_self]
      have p1 : ∀ K, laws_FnExactNetSend_p1 a p K = K (sendF a p) := fun K => by
        unfold laws_FnExactNetSend_p1
        simp only [toNet_eq a hl hl2, toPack_eq p hpl, implSend_eq a p hsum, both_self]
      have hs := sum_take_le List.length a a.length
      have hba : (a.map List.length).sum ≤ bPackS a := by unfold bPackS; omega
      rw [p0, toNet_eq a hl hl2, toPack_eq p hpl, implSend_eq a p hsum, eqNet_eq _ vl vl2, Bool.not_true, cond_false, toNet_eq a hl hl2, eqNet_eq a hl hl2, Bool.not_true, cond_false, toPack_eq p hpl, eqPack_eq p hpl, Bool.not_true, cond_false]
      unfold laws_FnExactNetSend_p2
      rw [markNet_eq a 1 hbl (by omega) (by omega), markPack_eq p _ hpl (by omega) (by omega), dec_lt_f (by omega), cond_false, eqNet_eq _ vl vl2, Bool.not_true, cond_false,
        markNet_eq _ 1 hvl (by omega) (by omega), heldNet_eq _ 1 hvl (by omega) (by omega), dec_lt_f (by omega), cond_false, bne_f, cond_false, p1, eqNet_eq _ vl vl2, Bool.not_true, cond_false,
        heldNet_eq _ 1 hvl (by omega) (by omega), dec_lt_f (by omega), cond_false, bne_f, cond_false]
    · rw [szR_neg h3, dec_lt_t (by omega), cond_true]
  · rw [szR_neg h, dec_lt_t (by omega), cond_true]

/-! ### take -/
def takeC (n : List (List Int)) (i : Int) : Bool := decide (nI n.length ≤ 30) && decide (0 ≤ i ∧ i < nI n.length)
def take1 (n : List (List Int)) (i : Int) : List Int := bif takeC n i then nth [] n i else []
def take2 (n : List (List Int)) (i : Int) : List (List Int) := bif takeC n i then butF n i else []
theorem specTake_eq (n : List (List Int)) (i : Int) (h : bPackS n ≤ LIM) (k : List Int → List (List Int) → Bool → Res) : spec_NetTake n i k = k (take1 n i) (take2 n i) (takeC n i) := by
  unfold spec_NetTake spec_NetOk take1 take2
  rw [place_iff]
  unfold takeC
  dsimp only
  cases decide (nI n.length ≤ 30)
  · rfl
  · rw [Bool.not_true, cond_false, Bool.true_and]
    by_cases hp : 0 ≤ i ∧ i < nI n.length
    · have := nth_len n i hp
      rw [decide_eq_true hp, Bool.not_true, cond_false, inb_of hp.1 hp.2, cond_true]
      simp only [l15Pack_eq (nth [] n i) (by omega), l15But_eq n i h, both_self, cond_true]
    · rw [decide_eq_false hp]; rfl
theorem implTake_eq (n : List (List Int)) (i : Int) (h : bPackS n ≤ LIM) (k : List Int → List (List Int) → Bool → Res) : impl_NetTake n i k = k (take1 n i) (take2 n i) (takeC n i) := specTake_eq n i h k
theorem take1_len (n : List (List Int)) (i : Int) : (take1 n i).length ≤ bPackS n := by
  unfold take1 takeC
  by_cases hp : 0 ≤ i ∧ i < nI n.length
  · have := nth_len n i hp
    cases decide (nI n.length ≤ 30)
    · simp
    · simpa [hp] using this
  · rw [decide_eq_false hp, Bool.and_false, cond_false]; simp
theorem take2_b (n : List (List Int)) (i : Int) : bPackS (take2 n i) ≤ bPackS n := by
  unfold take2
  cases takeC n i
  · simp [bPackS]
  · exact butF_b n i

theorem netTake (a : List (List Int)) (i : Int) (ha : a.length ≤ maxLen) (h2 : ∀ x ∈ a, x.length ≤ maxLen) (k : Bool → Res) : laws_FnExactNetTake a i k = k true := by
  unfold laws_FnExactNetTake
  rw [szNet_eq a 1048576 (by omega) (by omega) ha h2]
  by_cases h : (bPackS a : Int) ≤ 1048576
  · rw [szR_pos h, dec_lt_f (by omega), cond_false]
    have hbl : bPackS a ≤ LIM := by unfold LIM; omega
    obtain ⟨hl, hl2⟩ := bLen hbl
    have t1 := take1_len a i
    have t2 := take2_b a i
    have tl : (take1 a i).length ≤ LIM := by omega
    have hvl : bPackS (take2 a i) ≤ LIM := by omega
    obtain ⟨vl, vl2⟩ := bLen hvl
    have hba : ((take2 a i).map List.length).sum ≤ bPackS (take2 a i) := by unfold bPackS; omega
    rw [toNet_eq a hl hl2, specTake_eq a i hbl, toNet_eq a hl hl2, implTake_eq a i hbl]
    unfold laws_FnExactNetTake_p2
    rw [eqPack_eq _ tl, Bool.not_true, cond_false, eqNet_eq _ vl vl2, Bool.not_true, cond_false, beq_self_eq_true, Bool.not_true, cond_false, toNet_eq a hl hl2, eqNet_eq a hl hl2, Bool.not_true, cond_false,
      markNet_eq a 1 hbl (by omega) (by omega)]
    unfold laws_FnExactNetTake_p0
    rw [dec_lt_f (by omega), cond_false, eqPack_eq _ tl, Bool.not_true, cond_false, eqNet_eq _ vl vl2, Bool.not_true, cond_false, beq_self_eq_true, Bool.not_true]
    dsimp only
    rw [cond_false, markPack_eq _ 1 tl (by omega) (by omega)]
    unfold laws_FnExactNetTake_p1
    rw [markNet_eq _ _ hvl (by omega) (by omega), heldPack_eq _ 1 tl (by omega) (by omega), dec_lt_f (by omega), cond_false, heldNet_eq _ _ hvl (by omega) (by omega), dec_lt_f (by omega), cond_false, bne_f, cond_false,
      toNet_eq a hl hl2, implTake_eq a i hbl, eqPack_eq _ tl, Bool.not_true, cond_false, eqNet_eq _ vl vl2, Bool.not_true, cond_false, beq_self_eq_true, Bool.not_true, cond_false,
      heldPack_eq _ 1 tl (by omega) (by omega), dec_lt_f (by omega), cond_false, heldNet_eq _ _ hvl (by omega) (by omega), dec_lt_f (by omega), cond_false, bne_f, cond_false]
  · rw [szR_neg h, dec_lt_t (by omega), cond_true]

theorem row_FnExactNetCut (x0 : List (List Int)) (w0 : Wf y1 x0) (x1 : Int) (w1 : Wf (.int .i64) x1) (x2 : Int) (w2 : Wf (.int .i64) x2) (k : Bool → Res) : laws_FnExactNetCut x0 x1 x2 k = k true := netCut x0 x1 x2 (wfN w0).1 (wfN w0).2 k
theorem row_FnExactNetSend (x0 : List (List Int)) (w0 : Wf y1 x0) (x1 : List Int) (w1 : Wf y0 x1) (k : Bool → Res) : laws_FnExactNetSend x0 x1 k = k true := netSend x0 x1 (wfN w0).1 (wfN w0).2 w1.1 k
theorem row_FnExactNetTake (x0 : List (List Int)) (w0 : Wf y1 x0) (x1 : Int) (w1 : Wf (.int .i64) x1) (k : Bool → Res) : laws_FnExactNetTake x0 x1 k = k true := netTake x0 x1 (wfN w0).1 (wfN w0).2 k
end Go.PI.LA
