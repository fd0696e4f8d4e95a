/-
  What turns one store into another: what the program and the reference say. Lemmas; no conditions.
-/
import Derived.Test.YtcapkiofiipamaaGRL17
import Derived.Test.YtcapkiofiipamaaGRL00
import Derived.Test.YtcapkiofiipamaaGRN03
set_option linter.unusedVariables false
set_option linter.unusedSimpArgs false
namespace Go.PI.G
open Go Go.PI Go.Proofs

abbrev ST := Int × ByteArray × List V × List V × Int × ByteArray × List C × List ByteArray × ByteArray × ByteArray
/-- Two rows alike. -/
def alike {α : Type} (z : α) (f : α → α → Bool) (a b : List α) : Bool := decide (a.length = b.length) && !anyI (fun i x => !f x (nth z b (i : Int))) 0 a
def ceq (a b : C) : Bool := (sEq a.1 b.1) && ((a.2.1 == b.2.1) && ((a.2.2.1 == b.2.2.1) && ((a.2.2.2.1 == b.2.2.2.1) && ((a.2.2.2.2.1 == b.2.2.2.2.1) && ((a.2.2.2.2.2.1 == b.2.2.2.2.2.1) && (sEq a.2.2.2.2.2.2 b.2.2.2.2.2.2))))))
theorem alike_loop {α K : Type} (z : α) (f : α → α → Bool) (a b : List α) {step : Int → (Int → Res) → K → Res} (q : K) (x y : Res) (ha : a.length ≤ LIM) (hl : a.length = b.length)
    (hs : ∀ (i : Nat) rec, (hi : i < a.length) → (hj : i < b.length) → step (i : Int) rec q = bif f a[i] b[i] then rec ((i : Int) + 1) else y) (he : ∀ rec, step (a.length : Int) rec q = x) :
    iter step FUEL 0 q = bif alike z f a b then x else y := by
  have := anyI_loop a (fun i => i) (fun i u => !f u (nth z b (i : Int))) (step := step) q x y ha (fun i rec hi => by
    rw [hs i rec hi (hl ▸ hi), nth_nat _ _ _ (hl ▸ hi)]
    cases f a[i] (b[i]'(hl ▸ hi)) <;> rfl) he
  refine this.trans ?_
  unfold alike
  rw [decide_eq_true hl, Bool.true_and]
  cases anyI (fun i u => !f u (nth z b (i : Int))) 0 a <;> rfl
theorem len_ne {α β : Type} {a : List α} {b : List β} (h : ¬ a.length = b.length) : (nI a.length != nI b.length) = true := by unfold nI; simp; omega
theorem len_eq {α β : Type} {a : List α} {b : List β} (h : a.length = b.length) : (nI a.length != nI b.length) = false := by rw [h, bne_f]
theorem alike_ne {α : Type} {z : α} {f : α → α → Bool} {a b : List α} (h : ¬ a.length = b.length) : alike z f a b = false := by
  unfold alike; rw [decide_eq_false h, Bool.false_and]
theorem specSameVals_eq (a b : List V) (ha : a.length ≤ LIM) (k : Bool → Res) : spec_l03SameVals a b k = k (alike zV veq a b) := by
  unfold spec_l03SameVals
  by_cases hl : a.length = b.length
  · rw [len_eq hl, cond_false]
    unfold spec_l03SameVals_l0
    unfold LIM at ha
    have := alike_loop zV veq a b (step := spec_l03SameVals_l0_s a b (nI a.length)) ((fun (_ : Unit) => k true), (fun (_ : Unit) => k false)) (k true) (k false) ha hl (fun i rec hi hj => by
      show spec_l03SameVals_l0_r _ _ _ _ _ _ _ = _
      unfold spec_l03SameVals_l0_r
      rw [nI_lt hi, cond_true, inb_nat hi, cond_true, inb_nat hj, cond_true, nth_nat _ _ _ hi, nth_nat _ _ _ hj, wi64_in (n := (i : Int) + 1) (by omega)]
      show (bif !veq a[i] b[i] then _ else _) = _
      cases veq a[i] b[i] <;> rfl) (fun rec => by
      show spec_l03SameVals_l0_r _ _ _ _ _ _ _ = _
      unfold spec_l03SameVals_l0_r
      rw [nI_ge, cond_false])
    refine this.trans ?_
    cases alike zV veq a b <;> rfl
  · rw [len_ne hl, cond_true, alike_ne hl]
theorem implSameVals_eq (a b : List V) (ha : a.length ≤ LIM) (k : Bool → Res) : slices_Equal_Val a b k = k (alike zV veq a b) := by
  unfold slices_Equal_Val
  by_cases hl : a.length = b.length
  · rw [len_eq hl, cond_false]
    unfold slices_Equal_Val_l0
    unfold LIM at ha
    have := alike_loop zV veq a b (step := slices_Equal_Val_l0_s a b (nI a.length)) ((fun (_ : Unit) => k true), (fun (_ : Unit) => k false)) (k true) (k false) ha hl (fun i rec hi hj => by
      show slices_Equal_Val_l0_r _ _ _ _ _ _ _ = _
      unfold slices_Equal_Val_l0_r
      rw [nI_lt hi, cond_true, inb_nat hi, cond_true, inb_nat hj, cond_true, nth_nat _ _ _ hi, nth_nat _ _ _ hj, wi64_in (n := (i : Int) + 1) (by omega)]
      show (bif !veq a[i] b[i] then _ else _) = _
      cases veq a[i] b[i] <;> rfl) (fun rec => by
      show slices_Equal_Val_l0_r _ _ _ _ _ _ _ = _
      unfold slices_Equal_Val_l0_r
      rw [nI_ge, cond_false])
    refine this.trans ?_
    cases alike zV veq a b <;> rfl
  · rw [len_ne hl, cond_true, alike_ne hl]
/-! ### where a row stands -/
def rowAtV (t : T) (l : List (List V)) (key : List V) : Int := idxI (fun r => alike zV veq (keyV t r) key) l
theorem specRowAt_eq (t : T) (h : msr yT t ≤ 1048576) (l : List (List V)) (hl : rowsB t l = true) (key : List V) (k : Int → Res) : spec_RowAt t l key k = k (rowAtV t l key) := by
  obtain ⟨m1, m2, m3, m4, m5⟩ := msr_T h
  obtain ⟨r1, r2, r3⟩ := rowsB_parts hl
  unfold spec_RowAt
  rw [specRows_eq t h, hl, Bool.not_true, cond_false]
  unfold spec_RowAt_l0
  refine find_loop l (fun i => i) (fun r => alike zV veq (keyV t r) key) (step := spec_RowAt_l0_s key l (nI l.length) t) _ k (by unfold LIM; omega) (fun i rec hi => ?_) (fun rec => ?_)
  · show spec_RowAt_l0_r key _ _ t _ _ _ _ = _
    unfold spec_RowAt_l0_r
    rw [nI_lt hi, cond_true, inb_nat hi, cond_true, nth_nat _ _ _ hi, specKey_eq t h r1 _ (rowB_len (r3 _ (List.getElem_mem hi))), specSameVals_eq _ _ (by rw [keyV_len]; unfold LIM; omega), wi64_in (n := (i : Int) + 1) (by omega)]
  · show spec_RowAt_l0_r key _ _ t _ _ _ _ = _
    unfold spec_RowAt_l0_r
    rw [nI_ge, cond_false]
theorem implRowAt_eq (t : T) (h : msr yT t ≤ 1048576) (l : List (List V)) (hl : rowsB t l = true) (key : List V) (k : Int → Res) : impl_rowAt t l key k = k (rowAtV t l key) := by
  obtain ⟨m1, m2, m3, m4, m5⟩ := msr_T h
  obtain ⟨r1, r2, r3⟩ := rowsB_parts hl
  unfold impl_rowAt slices_IndexFunc_Row slices_IndexFunc_Row_l0
  refine find_loop l (fun i => i) (fun r => alike zV veq (keyV t r) key) (step := slices_IndexFunc_Row_l0_s l (t, key) (nI l.length)) _ k (by unfold LIM; omega) (fun i rec hi => ?_) (fun rec => ?_)
  · show slices_IndexFunc_Row_l0_r _ _ _ _ _ _ _ = _
    unfold slices_IndexFunc_Row_l0_r impl_rowAt1
    rw [nI_lt hi, cond_true, inb_nat hi, cond_true, nth_nat _ _ _ hi, implKey_eq t h r1 _ (rowB_len (r3 _ (List.getElem_mem hi))), implSameVals_eq _ _ (by rw [keyV_len]; unfold LIM; omega), wi64_in (n := (i : Int) + 1) (by omega)]
  · show slices_IndexFunc_Row_l0_r _ _ _ _ _ _ _ = _
    unfold slices_IndexFunc_Row_l0_r
    rw [nI_ge, cond_false]
theorem rowAtV_range (t : T) (l : List (List V)) (key : List V) : -1 ≤ rowAtV t l key ∧ rowAtV t l key < (l.length : Int) := idxI_range _ _

/-! ### the statements of one table -/
def goneS (t : T) (b : List (List V)) (r : List V) : List ST := bif decide (rowAtV t b (keyV t r) < 0) then [(3, t.1, keyV t r, [], 0, eS, [], [], eS, eS)] else []
def changedS (t : T) (a : List (List V)) (r : List V) : List ST := bif decide (rowAtV t a (keyV t r) ≥ 0) then (bif !alike zV veq (nth [] a (rowAtV t a (keyV t r))) r then [(2, t.1, keyV t r, r, 0, eS, [], [], eS, eS)] else []) else []
def newS (t : T) (a : List (List V)) (r : List V) : List ST := bif decide (rowAtV t a (keyV t r) < 0) then [(1, t.1, [], r, 0, eS, [], [], eS, eS)] else []
def mendS (t : T) (a b : List (List V)) : List ST := (a.flatMap (goneS t b) ++ b.flatMap (changedS t a)) ++ b.flatMap (newS t a)
theorem flat_le {α β : Type} (g : α → List β) (h : ∀ x, (g x).length ≤ 1) : (l : List α) → (l.flatMap g).length ≤ l.length
  | [] => Nat.le_refl _
  | x :: l => by
    have := h x
    have := flat_le g h l
    rw [List.flatMap_cons, List.length_append, List.length_cons]
    omega
theorem goneS_le (t : T) (b : List (List V)) (r : List V) : (goneS t b r).length ≤ 1 := by unfold goneS; cases decide (rowAtV t b (keyV t r) < 0) <;> simp
theorem changedS_le (t : T) (a : List (List V)) (r : List V) : (changedS t a r).length ≤ 1 := by
  unfold changedS
  cases decide (rowAtV t a (keyV t r) ≥ 0)
  · simp
  · cases alike zV veq (nth [] a (rowAtV t a (keyV t r))) r <;> simp
theorem newS_le (t : T) (a : List (List V)) (r : List V) : (newS t a r).length ≤ 1 := by unfold newS; cases decide (rowAtV t a (keyV t r) < 0) <;> simp
theorem mendS_le (t : T) (a b : List (List V)) (ha : a.length ≤ 60) (hb : b.length ≤ 60) : (mendS t a b).length ≤ 180 := by
  unfold mendS
  have := flat_le _ (goneS_le t b) a
  have := flat_le _ (changedS_le t a) b
  have := flat_le _ (newS_le t a) b
  rw [List.length_append, List.length_append]
  omega
theorem take_le {α β : Type} (g : α → List β) (h : ∀ x, (g x).length ≤ 1) (pre : List β) (l : List α) (i : Nat) (hl : l.length ≤ 60) (hp : pre.length ≤ 120) : (pre ++ (l.take i).flatMap g).length ≤ 180 := by
  have := flat_le g h (l.take i)
  rw [List.length_take] at this
  rw [List.length_append]
  omega
theorem specGone_loop (t : T) (h : msr yT t ≤ 1048576) (a b : List (List V)) (ha : rowsB t a = true) (hb : rowsB t b = true) (k : List ST → Res) : spec_RowsMend_l0 b a (nI a.length) t FUEL [] 0 k = k (a.flatMap (goneS t b)) := by
  obtain ⟨r1, r2, r3⟩ := rowsB_parts ha
  unfold spec_RowsMend_l0
  have := flat_loop a (fun i out => (out, i)) (goneS t b) 180 [] (step := spec_RowsMend_l0_s b a (nI a.length) t) k k (by unfold LIM; omega) (fun i hi _ => take_le _ (goneS_le t b) _ _ _ r2 (by simp)) (by simp) (fun i out rec hi ho hB => by
    show spec_RowsMend_l0_r _ _ _ t _ _ _ _ = _
    unfold spec_RowsMend_l0_r
    dsimp only
    have hrow := rowB_len (r3 _ (List.getElem_mem hi))
    rw [nI_lt hi, cond_true, inb_nat hi, cond_true, nth_nat _ _ _ hi, specKey_eq t h r1 _ hrow, specRowAt_eq t h b hb, wi64_in (n := (i : Int) + 1) (by omega)]
    unfold goneS
    cases decide (rowAtV t b (keyV t a[i]) < 0)
    · rw [cond_false, cond_false, List.append_nil]
    · rw [cond_true, cond_true, specKey_eq t h r1 _ hrow, lim_of (by unfold LIM; omega), cond_true]) (fun out rec => by
    show spec_RowsMend_l0_r _ _ _ t _ _ _ _ = _
    unfold spec_RowsMend_l0_r
    dsimp only
    rw [nI_ge, cond_false])
  refine this.trans ?_
  rw [List.nil_append]
theorem specChanged_loop (t : T) (h : msr yT t ≤ 1048576) (a b : List (List V)) (ha : rowsB t a = true) (hb : rowsB t b = true) (pre : List ST) (hp : pre.length ≤ 60) (k : List ST → Res) : spec_RowsMend_l1 a b (nI b.length) t FUEL pre 0 k = k (pre ++ b.flatMap (changedS t a)) := by
  obtain ⟨m1, m2, m3, m4, m5⟩ := msr_T h
  obtain ⟨r1, r2, r3⟩ := rowsB_parts hb
  obtain ⟨q1, q2, q3⟩ := rowsB_parts ha
  unfold spec_RowsMend_l1
  refine flat_loop b (fun i out => (out, i)) (changedS t a) 180 pre (step := spec_RowsMend_l1_s a b (nI b.length) t) k k (by unfold LIM; omega) (fun i hi _ => take_le _ (changedS_le t a) _ _ _ r2 (by omega)) (by omega) (fun i out rec hi ho hB => by
    show spec_RowsMend_l1_r _ _ _ t _ _ _ _ = _
    unfold spec_RowsMend_l1_r
    dsimp only
    have hrow := rowB_len (r3 _ (List.getElem_mem hi))
    rw [nI_lt hi, cond_true, inb_nat hi, cond_true, nth_nat _ _ _ hi, specKey_eq t h r1 _ hrow, specRowAt_eq t h a ha, wi64_in (n := (i : Int) + 1) (by omega)]
    unfold changedS
    have hr := (rowAtV_range t a (keyV t b[i])).2
    by_cases h0 : rowAtV t a (keyV t b[i]) ≥ 0
    · obtain ⟨j, hj⟩ : ∃ j : Nat, rowAtV t a (keyV t b[i]) = (j : Int) := ⟨(rowAtV t a (keyV t b[i])).toNat, by omega⟩
      have hj' : j < a.length := by omega
      have hrow' := rowB_len (q3 _ (List.getElem_mem hj'))
      rw [decide_eq_true h0, cond_true, cond_true, hj, inb_nat hj', cond_true, nth_nat _ _ _ hj', specSameVals_eq _ _ (by unfold LIM; omega)]
      cases alike zV veq a[j] b[i]
      · unfold spec_l03Row
        rw [Bool.not_false, cond_true, cond_true, specKey_eq t h r1 _ hrow, lim_of (by unfold LIM; omega), cond_true]
        dsimp only
        rw [lim_of (by unfold LIM; omega), cond_true]
      · rw [Bool.not_true, cond_false, cond_false, List.append_nil]
    · rw [decide_eq_false h0, cond_false, cond_false, List.append_nil]) (fun out rec => by
    show spec_RowsMend_l1_r _ _ _ t _ _ _ _ = _
    unfold spec_RowsMend_l1_r
    dsimp only
    rw [nI_ge, cond_false])
theorem specNew_loop (t : T) (h : msr yT t ≤ 1048576) (a b : List (List V)) (ha : rowsB t a = true) (hb : rowsB t b = true) (pre : List ST) (hp : pre.length ≤ 120) (k : List ST → Res) : spec_RowsMend_l2 a b (nI b.length) t FUEL pre 0 k = k (pre ++ b.flatMap (newS t a)) := by
  obtain ⟨m1, m2, m3, m4, m5⟩ := msr_T h
  obtain ⟨r1, r2, r3⟩ := rowsB_parts hb
  unfold spec_RowsMend_l2
  refine flat_loop b (fun i out => (out, i)) (newS t a) 180 pre (step := spec_RowsMend_l2_s a b (nI b.length) t) k k (by unfold LIM; omega) (fun i hi _ => take_le _ (newS_le t a) _ _ _ r2 hp) (by omega) (fun i out rec hi ho hB => by
    show spec_RowsMend_l2_r _ _ _ t _ _ _ _ = _
    unfold spec_RowsMend_l2_r
    dsimp only
    have hrow := rowB_len (r3 _ (List.getElem_mem hi))
    rw [nI_lt hi, cond_true, inb_nat hi, cond_true, nth_nat _ _ _ hi, specKey_eq t h r1 _ hrow, specRowAt_eq t h a ha, wi64_in (n := (i : Int) + 1) (by omega)]
    unfold newS
    cases decide (rowAtV t a (keyV t b[i]) < 0)
    · rw [cond_false, cond_false, List.append_nil]
    · unfold spec_l03Row
      rw [cond_true, cond_true, lim_of (by unfold LIM; omega), cond_true]
      dsimp only
      rw [lim_of (by unfold LIM; omega), cond_true]) (fun out rec => by
    show spec_RowsMend_l2_r _ _ _ t _ _ _ _ = _
    unfold spec_RowsMend_l2_r
    dsimp only
    rw [nI_ge, cond_false])
theorem implGone_loop (t : T) (h : msr yT t ≤ 1048576) (a b : List (List V)) (ha : rowsB t a = true) (hb : rowsB t b = true) (k : List ST → Res) : impl_rowsMend_l0 b a (nI a.length) t FUEL [] 0 k = k (a.flatMap (goneS t b)) := by
  obtain ⟨r1, r2, r3⟩ := rowsB_parts ha
  unfold impl_rowsMend_l0
  have := flat_loop a (fun i out => (out, i)) (goneS t b) 180 [] (step := impl_rowsMend_l0_s b a (nI a.length) t) k k (by unfold LIM; omega) (fun i hi _ => take_le _ (goneS_le t b) _ _ _ r2 (by simp)) (by simp) (fun i out rec hi ho hB => by
    show impl_rowsMend_l0_r _ _ _ t _ _ _ _ = _
    unfold impl_rowsMend_l0_r
    dsimp only
    have hrow := rowB_len (r3 _ (List.getElem_mem hi))
    rw [nI_lt hi, cond_true, inb_nat hi, cond_true, nth_nat _ _ _ hi, implKey_eq t h r1 _ hrow, implRowAt_eq t h b hb, wi64_in (n := (i : Int) + 1) (by omega)]
    unfold goneS
    cases decide (rowAtV t b (keyV t a[i]) < 0)
    · rw [cond_false, cond_false, List.append_nil]
    · rw [cond_true, cond_true, lim_of (by unfold LIM; omega), cond_true]) (fun out rec => by
    show impl_rowsMend_l0_r _ _ _ t _ _ _ _ = _
    unfold impl_rowsMend_l0_r
    dsimp only
    rw [nI_ge, cond_false])
  refine this.trans ?_
  rw [List.nil_append]
theorem implChanged_loop (t : T) (h : msr yT t ≤ 1048576) (a b : List (List V)) (ha : rowsB t a = true) (hb : rowsB t b = true) (pre : List ST) (hp : pre.length ≤ 60) (k : List ST → Res) : impl_rowsMend_l1 a b (nI b.length) t FUEL pre 0 k = k (pre ++ b.flatMap (changedS t a)) := by
  obtain ⟨m1, m2, m3, m4, m5⟩ := msr_T h
  obtain ⟨r1, r2, r3⟩ := rowsB_parts hb
  obtain ⟨q1, q2, q3⟩ := rowsB_parts ha
  unfold impl_rowsMend_l1
  refine flat_loop b (fun i out => (out, i)) (changedS t a) 180 pre (step := impl_rowsMend_l1_s a b (nI b.length) t) k k (by unfold LIM; omega) (fun i hi _ => take_le _ (changedS_le t a) _ _ _ r2 (by omega)) (by omega) (fun i out rec hi ho hB => by
    show impl_rowsMend_l1_r _ _ _ t _ _ _ _ = _
    unfold impl_rowsMend_l1_r
    dsimp only
    have hrow := rowB_len (r3 _ (List.getElem_mem hi))
    rw [nI_lt hi, cond_true, inb_nat hi, cond_true, nth_nat _ _ _ hi, implKey_eq t h r1 _ hrow, implRowAt_eq t h a ha, wi64_in (n := (i : Int) + 1) (by omega)]
    unfold changedS
    have hr := (rowAtV_range t a (keyV t b[i])).2
    by_cases h0 : rowAtV t a (keyV t b[i]) ≥ 0
    · obtain ⟨j, hj⟩ : ∃ j : Nat, rowAtV t a (keyV t b[i]) = (j : Int) := ⟨(rowAtV t a (keyV t b[i])).toNat, by omega⟩
      have hj' : j < a.length := by omega
      have hrow' := rowB_len (q3 _ (List.getElem_mem hj'))
      rw [decide_eq_true h0, cond_true, cond_true, hj, inb_nat hj', cond_true, nth_nat _ _ _ hj', implSameVals_eq _ _ (by unfold LIM; omega)]
      cases alike zV veq a[j] b[i]
      · unfold impl_copyVals
        rw [Bool.not_false, cond_true, cond_true, lim_of (by unfold LIM; omega), cond_true]
        dsimp only
        rw [lim_of (by unfold LIM; omega), cond_true]
      · rw [Bool.not_true, cond_false, cond_false, List.append_nil]
    · rw [decide_eq_false h0, cond_false, cond_false, List.append_nil]) (fun out rec => by
    show impl_rowsMend_l1_r _ _ _ t _ _ _ _ = _
    unfold impl_rowsMend_l1_r
    dsimp only
    rw [nI_ge, cond_false])
theorem implNew_loop (t : T) (h : msr yT t ≤ 1048576) (a b : List (List V)) (ha : rowsB t a = true) (hb : rowsB t b = true) (pre : List ST) (hp : pre.length ≤ 120) (k : List ST → Res) : impl_rowsMend_l2 a b (nI b.length) t FUEL pre 0 k = k (pre ++ b.flatMap (newS t a)) := by
  obtain ⟨m1, m2, m3, m4, m5⟩ := msr_T h
  obtain ⟨r1, r2, r3⟩ := rowsB_parts hb
  unfold impl_rowsMend_l2
  refine flat_loop b (fun i out => (out, i)) (newS t a) 180 pre (step := impl_rowsMend_l2_s a b (nI b.length) t) k k (by unfold LIM; omega) (fun i hi _ => take_le _ (newS_le t a) _ _ _ r2 hp) (by omega) (fun i out rec hi ho hB => by
    show impl_rowsMend_l2_r _ _ _ t _ _ _ _ = _
    unfold impl_rowsMend_l2_r
    dsimp only
    have hrow := rowB_len (r3 _ (List.getElem_mem hi))
    rw [nI_lt hi, cond_true, inb_nat hi, cond_true, nth_nat _ _ _ hi, implKey_eq t h r1 _ hrow, implRowAt_eq t h a ha, wi64_in (n := (i : Int) + 1) (by omega)]
    unfold newS
    cases decide (rowAtV t a (keyV t b[i]) < 0)
    · rw [cond_false, cond_false, List.append_nil]
    · unfold impl_copyVals
      rw [cond_true, cond_true, lim_of (by unfold LIM; omega), cond_true]
      dsimp only
      rw [lim_of (by unfold LIM; omega), cond_true]) (fun out rec => by
    show impl_rowsMend_l2_r _ _ _ t _ _ _ _ = _
    unfold impl_rowsMend_l2_r
    dsimp only
    rw [nI_ge, cond_false])
theorem specRowsMend_eq (t : T) (h : msr yT t ≤ 1048576) (a b : List (List V)) (k : List ST → Bool → Res) : spec_RowsMend t a b k = bif rowsB t a && rowsB t b then k (mendS t a b) true else k [] false := by
  unfold spec_RowsMend
  rw [specRows_eq t h, specRows_eq t h]
  cases ha : rowsB t a
  · rfl
  · cases hb : rowsB t b
    · rfl
    · obtain ⟨r1, r2, r3⟩ := rowsB_parts hb
      obtain ⟨q1, q2, q3⟩ := rowsB_parts ha
      have g1 := flat_le _ (goneS_le t b) a
      have g2 := flat_le _ (changedS_le t a) b
      rw [Bool.not_true, cond_false, cond_false, specGone_loop t h a b ha hb, specChanged_loop t h a b ha hb _ (by omega), specNew_loop t h a b ha hb _ (by rw [List.length_append]; omega)]
      rfl
theorem implRowsMend_eq (t : T) (h : msr yT t ≤ 1048576) (a b : List (List V)) (ha : rowsB t a = true) (hb : rowsB t b = true) (k : List ST → Res) : impl_rowsMend t a b k = k (mendS t a b) := by
  unfold impl_rowsMend
  obtain ⟨r1, r2, r3⟩ := rowsB_parts hb
  obtain ⟨q1, q2, q3⟩ := rowsB_parts ha
  have g1 := flat_le _ (goneS_le t b) a
  have g2 := flat_le _ (changedS_le t a) b
  rw [implGone_loop t h a b ha hb, implChanged_loop t h a b ha hb _ (by omega), implNew_loop t h a b ha hb _ (by rw [List.length_append]; omega)]
  rfl
end Go.PI.G
