/-
  Printed texts and plain laws. No conditions.
-/
import Derived.Test.YtcapkiofiipamaaGreatZ6d
import Derived.Test.YtcapkiofiipamaaGreatZ6k
import Derived.Test.YtcapkiofiipamaaGreatZ6e
import Derived.Test.YtcapkiofiipamaaGreatZ6a
import Derived.Test.YtcapkiofiipamaaGreatZ6b
import Derived.Test.YtcapkiofiipamaaGreatZ6f
set_option linter.unusedVariables false
set_option linter.unusedSimpArgs false
namespace Go.PI.G
open Go Go.PI Go.Proofs

theorem msr_DB {d : DB} (h : msr yDB d ≤ 1048576) : msr (.slice yT) d.1 ≤ 1048576 ∧ d.1.length ≤ 1048576 ∧ d.2.length ≤ 1048576 ∧ (∀ t ∈ d.1, msr yT t ≤ 1048576) ∧ ∀ l ∈ d.2, l.length ≤ 1048576 := by
  have h1 : msr yDB d = msr (.slice yT) d.1 + msr (.slice (.slice (.slice yV))) d.2 := rfl
  have h2 : msr (.slice yT) d.1 ≤ 1048576 := by omega
  have h3 : msr (.slice (.slice (.slice yV))) d.2 ≤ 1048576 := by omega
  exact ⟨h2, msr_len h2, msr_len h3, fun t ht => msr_mem h2 ht, fun l hl => msr_len (msr_mem h3 hl)⟩
theorem specDb_eq (d : DB) (h : msr yDB d ≤ 1048576) (k : Bool → Res) : spec_DbOk d k = k (dbB d) := by
  obtain ⟨m1, m2, m3, m4, m5⟩ := msr_DB h
  unfold spec_DbOk dbB
  rw [specCat_eq _ m1]
  cases catB d.1
  · rfl
  · rw [Bool.not_true, cond_false, Bool.true_and]
    by_cases hl : d.2.length = d.1.length
    · have hb : (nI d.2.length != nI d.1.length) = false := by rw [hl, bne_f]
      rw [hb, cond_false, decide_eq_true hl, Bool.true_and]
      unfold spec_DbOk_l0
      have := anyI_loop d.1 (fun i => i) (fun i t => !rowsB t (nth [] d.2 (i : Int))) (step := spec_DbOk_l0_s d.1 (nI d.1.length) d) ((fun (_ : Unit) => k true), (fun (_ : Unit) => k false)) (k true) (k false) (by unfold LIM; omega) (fun i rec hi => by
        show spec_DbOk_l0_r _ _ d _ _ _ _ = _
        unfold spec_DbOk_l0_r
        rw [nI_lt hi, cond_true, inb_nat hi, cond_true, inb_nat (hl ▸ hi), cond_true, nth_nat _ _ _ hi, specRows_eq _ (m4 _ (List.getElem_mem hi)), wi64_in (n := (i : Int) + 1) (by omega)]) (fun rec => by
        show spec_DbOk_l0_r _ _ d _ _ _ _ = _
        unfold spec_DbOk_l0_r
        rw [nI_ge, cond_false])
      refine this.trans ?_
      cases anyI (fun i t => !rowsB t (nth [] d.2 (i : Int))) 0 d.1 <;> rfl
    · have hb : (nI d.2.length != nI d.1.length) = true := by unfold nI; simp; omega
      rw [hb, cond_true, decide_eq_false hl, Bool.false_and]
theorem implDb_eq (d : DB) (h : msr yDB d ≤ 1048576) (k : Bool → Res) : impl_DbOk d k = k (dbB d) := by
  obtain ⟨m1, m2, m3, m4, m5⟩ := msr_DB h
  unfold impl_DbOk dbB
  rw [implCat_eq _ m1]
  cases catB d.1
  · rfl
  · rw [Bool.not_true, cond_false, Bool.true_and]
    by_cases hl : d.2.length = d.1.length
    · have hb : (nI d.2.length != nI d.1.length) = false := by rw [hl, bne_f]
      rw [hb, cond_false, decide_eq_true hl, Bool.true_and]
      unfold impl_DbOk_l0
      have := anyI_loop d.1 (fun i => i) (fun i t => !rowsB t (nth [] d.2 (i : Int))) (step := impl_DbOk_l0_s d.1 (nI d.1.length) d) ((fun (_ : Unit) => k true), (fun (_ : Unit) => k false)) (k true) (k false) (by unfold LIM; omega) (fun i rec hi => by
        show impl_DbOk_l0_r _ _ d _ _ _ _ = _
        unfold impl_DbOk_l0_r
        rw [nI_lt hi, cond_true, inb_nat hi, cond_true, inb_nat (hl ▸ hi), cond_true, nth_nat _ _ _ hi, implRows_eq _ (m4 _ (List.getElem_mem hi)), wi64_in (n := (i : Int) + 1) (by omega)]) (fun rec => by
        show impl_DbOk_l0_r _ _ d _ _ _ _ = _
        unfold impl_DbOk_l0_r
        rw [nI_ge, cond_false])
      refine this.trans ?_
      cases anyI (fun i t => !rowsB t (nth [] d.2 (i : Int))) 0 d.1 <;> rfl
    · have hb : (nI d.2.length != nI d.1.length) = true := by unfold nI; simp; omega
      rw [hb, cond_true, decide_eq_false hl, Bool.false_and]
theorem dbB_parts {d : DB} (h : dbB d = true) : catB d.1 = true ∧ d.2.length = d.1.length ∧ ∀ (i : Nat) (hi : i < d.1.length) (hi' : i < d.2.length), rowsB d.1[i] d.2[i] = true := by
  unfold dbB at h
  simp only [Bool.and_eq_true, decide_eq_true_eq, Bool.not_eq_true'] at h
  refine ⟨h.1, h.2.1, fun i hi hi' => ?_⟩
  have := anyI_false d.1 0 h.2.2 i hi
  rw [Bool.not_eq_false', show 0 + i = i by omega, nth_nat _ _ _ hi'] at this
  exact this
end Go.PI.G
namespace Go.PI.G
open Go Go.PI Go.Proofs

abbrev ST := Int × ByteArray × List V × List V × Int × ByteArray × List C × List ByteArray × ByteArray × ByteArray
/-- Two rows alike. -/
def alike {α : Type} (z : α) (f : α → α → Bool) (a b : List α) : Bool := decide (a.length = b.length) && !anyI (fun i x => !f x (nth z b (i : Int))) 0 a
def ceq (a b : C) : Bool := (sEq a.1 b.1) && ((a.2.1 == b.2.1) && ((a.2.2.1 == b.2.2.1) && ((a.2.2.2.1 == b.2.2.2.1) && ((a.2.2.2.2.1 == b.2.2.2.2.1) && ((a.2.2.2.2.2.1 == b.2.2.2.2.2.1) && (sEq a.2.2.2.2.2.2 b.2.2.2.2.2.2))))))
theorem alike_loop {α K : Type} (z : α) (f : α → α → Bool) (a b : List α) {step : Int → (Int → Res) → K → Res} (q : K) (x y : Res) (ha : a.length ≤ LIM) (hl : a.length = b.length)
    (hs : ∀ (i : Nat) rec, (hi : i < a.length) → (hj : i < b.length) → step (i : Int) rec q = bif f a[i] b[i] then rec ((i : Int) + 1) else y) (he : ∀ rec, step (a.length : Int) rec q = x) :
    iter step FUEL 0 q = bif alike z f a b then x else y := by
  have := anyI_loop a (fun i => i) (fun i u => !f u (nth z b (i : Int))) (step := step) q x y ha (fun i rec hi => by
    rw [hs i rec hi (hl ▸ hi), nth_nat _ _ _ (hl ▸ hi)]
    cases f a[i] (b[i]'(hl ▸ hi)) <;> rfl) he
  refine this.trans ?_
  unfold alike
  rw [decide_eq_true hl, Bool.true_and]
  cases anyI (fun i u => !f u (nth z b (i : Int))) 0 a <;> rfl
theorem len_ne {α β : Type} {a : List α} {b : List β} (h : ¬ a.length = b.length) : (nI a.length != nI b.length) = true := by unfold nI; simp; omega
theorem len_eq {α β : Type} {a : List α} {b : List β} (h : a.length = b.length) : (nI a.length != nI b.length) = false := by rw [h, bne_f]
theorem alike_ne {α : Type} {z : α} {f : α → α → Bool} {a b : List α} (h : ¬ a.length = b.length) : alike z f a b = false := by
  unfold alike; rw [decide_eq_false h, Bool.false_and]
theorem specSameVals_eq (a b : List V) (ha : a.length ≤ LIM) (k : Bool → Res) : spec_l03SameVals a b k = k (alike zV veq a b) := by
  unfold spec_l03SameVals
  by_cases hl : a.length = b.length
  · rw [len_eq hl, cond_false]
    unfold spec_l03SameVals_l0
    unfold LIM at ha
    have := alike_loop zV veq a b (step := spec_l03SameVals_l0_s a b (nI a.length)) ((fun (_ : Unit) => k true), (fun (_ : Unit) => k false)) (k true) (k false) ha hl (fun i rec hi hj => by
      show spec_l03SameVals_l0_r _ _ _ _ _ _ _ = _
      unfold spec_l03SameVals_l0_r
      rw [nI_lt hi, cond_true, inb_nat hi, cond_true, inb_nat hj, cond_true, nth_nat _ _ _ hi, nth_nat _ _ _ hj, wi64_in (n := (i : Int) + 1) (by omega)]
      show (bif !veq a[i] b[i] then _ else _) = _
      cases veq a[i] b[i] <;> rfl) (fun rec => by
      show spec_l03SameVals_l0_r _ _ _ _ _ _ _ = _
      unfold spec_l03SameVals_l0_r
      rw [nI_ge, cond_false])
    refine this.trans ?_
    cases alike zV veq a b <;> rfl
  · rw [len_ne hl, cond_true, alike_ne hl]
theorem implSameVals_eq (a b : List V) (ha : a.length ≤ LIM) (k : Bool → Res) : slices_Equal_Val a b k = k (alike zV veq a b) := by
  unfold slices_Equal_Val
  by_cases hl : a.length = b.length
  · rw [len_eq hl, cond_false]
    unfold slices_Equal_Val_l0
    unfold LIM at ha
    have := alike_loop zV veq a b (step := slices_Equal_Val_l0_s a b (nI a.length)) ((fun (_ : Unit) => k true), (fun (_ : Unit) => k false)) (k true) (k false) ha hl (fun i rec hi hj => by
      show slices_Equal_Val_l0_r _ _ _ _ _ _ _ = _
      unfold slices_Equal_Val_l0_r
      rw [nI_lt hi, cond_true, inb_nat hi, cond_true, inb_nat hj, cond_true, nth_nat _ _ _ hi, nth_nat _ _ _ hj, wi64_in (n := (i : Int) + 1) (by omega)]
      show (bif !veq a[i] b[i] then _ else _) = _
      cases veq a[i] b[i] <;> rfl) (fun rec => by
      show slices_Equal_Val_l0_r _ _ _ _ _ _ _ = _
      unfold slices_Equal_Val_l0_r
      rw [nI_ge, cond_false])
    refine this.trans ?_
    cases alike zV veq a b <;> rfl
  · rw [len_ne hl, cond_true, alike_ne hl]
/-! ### where a row stands -/
def rowAtV (t : T) (l : List (List V)) (key : List V) : Int := idxI (fun r => alike zV veq (keyV t r) key) l
theorem specRowAt_eq (t : T) (h : msr yT t ≤ 1048576) (l : List (List V)) (hl : rowsB t l = true) (key : List V) (k : Int → Res) : spec_RowAt t l key k = k (rowAtV t l key) := by
  obtain ⟨m1, m2, m3, m4, m5⟩ := msr_T h
  obtain ⟨r1, r2, r3⟩ := rowsB_parts hl
  unfold spec_RowAt
  rw [specRows_eq t h, hl, Bool.not_true, cond_false]
  unfold spec_RowAt_l0
  refine find_loop l (fun i => i) (fun r => alike zV veq (keyV t r) key) (step := spec_RowAt_l0_s key l (nI l.length) t) _ k (by unfold LIM; omega) (fun i rec hi => ?_) (fun rec => ?_)
  · show spec_RowAt_l0_r key _ _ t _ _ _ _ = _
    unfold spec_RowAt_l0_r
    rw [nI_lt hi, cond_true, inb_nat hi, cond_true, nth_nat _ _ _ hi, specKey_eq t h r1 _ (rowB_len (r3 _ (List.getElem_mem hi))), specSameVals_eq _ _ (by rw [keyV_len]; unfold LIM; omega), wi64_in (n := (i : Int) + 1) (by omega)]
  · show spec_RowAt_l0_r key _ _ t _ _ _ _ = _
    unfold spec_RowAt_l0_r
    rw [nI_ge, cond_false]
theorem implRowAt_eq (t : T) (h : msr yT t ≤ 1048576) (l : List (List V)) (hl : rowsB t l = true) (key : List V) (k : Int → Res) : impl_rowAt t l key k = k (rowAtV t l key) := by
  obtain ⟨m1, m2, m3, m4, m5⟩ := msr_T h
  obtain ⟨r1, r2, r3⟩ := rowsB_parts hl
  unfold impl_rowAt slices_IndexFunc_Row slices_IndexFunc_Row_l0
  refine find_loop l (fun i => i) (fun r => alike zV veq (keyV t r) key) (step := slices_IndexFunc_Row_l0_s l (t, key) (nI l.length)) _ k (by unfold LIM; omega) (fun i rec hi => ?_) (fun rec => ?_)
  · show slices_IndexFunc_Row_l0_r _ _ _ _ _ _ _ = _
    unfold slices_IndexFunc_Row_l0_r impl_rowAt1
    rw [nI_lt hi, cond_true, inb_nat hi, cond_true, nth_nat _ _ _ hi, implKey_eq t h r1 _ (rowB_len (r3 _ (List.getElem_mem hi))), implSameVals_eq _ _ (by rw [keyV_len]; unfold LIM; omega), wi64_in (n := (i : Int) + 1) (by omega)]
  · show slices_IndexFunc_Row_l0_r _ _ _ _ _ _ _ = _
    unfold slices_IndexFunc_Row_l0_r
    rw [nI_ge, cond_false]
theorem rowAtV_range (t : T) (l : List (List V)) (key : List V) : -1 ≤ rowAtV t l key ∧ rowAtV t l key < (l.length : Int) := idxI_range _ _

/-! ### the statements of one table -/
def goneS (t : T) (b : List (List V)) (r : List V) : List ST := bif decide (rowAtV t b (keyV t r) < 0) then [(3, t.1, keyV t r, [], 0, eS, [], [], eS, eS)] else []
def changedS (t : T) (a : List (List V)) (r : List V) : List ST := bif decide (rowAtV t a (keyV t r) ≥ 0) then (bif !alike zV veq (nth [] a (rowAtV t a (keyV t r))) r then [(2, t.1, keyV t r, r, 0, eS, [], [], eS, eS)] else []) else []
def newS (t : T) (a : List (List V)) (r : List V) : List ST := bif decide (rowAtV t a (keyV t r) < 0) then [(1, t.1, [], r, 0, eS, [], [], eS, eS)] else []
def mendS (t : T) (a b : List (List V)) : List ST := (a.flatMap (goneS t b) ++ b.flatMap (changedS t a)) ++ b.flatMap (newS t a)
theorem flat_le {α β : Type} (g : α → List β) (h : ∀ x, (g x).length ≤ 1) : (l : List α) → (l.flatMap g).length ≤ l.length
  | [] => Nat.le_refl _
  | x :: l => by
    have := h x
    have := flat_le g h l
    rw [List.flatMap_cons, List.length_append, List.length_cons]
    omega
theorem goneS_le (t : T) (b : List (List V)) (r : List V) : (goneS t b r).length ≤ 1 := by unfold goneS; cases decide (rowAtV t b (keyV t r) < 0) <;> simp
theorem changedS_le (t : T) (a : List (List V)) (r : List V) : (changedS t a r).length ≤ 1 := by
  unfold changedS
  cases decide (rowAtV t a (keyV t r) ≥ 0)
  · simp
  · cases alike zV veq (nth [] a (rowAtV t a (keyV t r))) r <;> simp
theorem newS_le (t : T) (a : List (List V)) (r : List V) : (newS t a r).length ≤ 1 := by unfold newS; cases decide (rowAtV t a (keyV t r) < 0) <;> simp
theorem mendS_le (t : T) (a b : List (List V)) (ha : a.length ≤ 60) (hb : b.length ≤ 60) : (mendS t a b).length ≤ 180 := by
  unfold mendS
  have := flat_le _ (goneS_le t b) a
  have := flat_le _ (changedS_le t a) b
  have := flat_le _ (newS_le t a) b
  rw [List.length_append, List.length_append]
  omega
theorem take_le {α β : Type} (g : α → List β) (h : ∀ x, (g x).length ≤ 1) (pre : List β) (l : List α) (i : Nat) (hl : l.length ≤ 60) (hp : pre.length ≤ 120) : (pre ++ (l.take i).flatMap g).length ≤ 180 := by
  have := flat_le g h (l.take i)
  rw [List.length_take] at this
  rw [List.length_append]
  omega
theorem specGone_loop (t : T) (h : msr yT t ≤ 1048576) (a b : List (List V)) (ha : rowsB t a = true) (hb : rowsB t b = true) (k : List ST → Res) : spec_RowsMend_l0 b a (nI a.length) t FUEL [] 0 k = k (a.flatMap (goneS t b)) := by
  obtain ⟨r1, r2, r3⟩ := rowsB_parts ha
  unfold spec_RowsMend_l0
  have := flat_loop a (fun i out => (out, i)) (goneS t b) 180 [] (step := spec_RowsMend_l0_s b a (nI a.length) t) k k (by unfold LIM; omega) (fun i hi _ => take_le _ (goneS_le t b) _ _ _ r2 (by simp)) (by simp) (fun i out rec hi ho hB => by
    show spec_RowsMend_l0_r _ _ _ t _ _ _ _ = _
    unfold spec_RowsMend_l0_r
    dsimp only
    have hrow := rowB_len (r3 _ (List.getElem_mem hi))
    rw [nI_lt hi, cond_true, inb_nat hi, cond_true, nth_nat _ _ _ hi, specKey_eq t h r1 _ hrow, specRowAt_eq t h b hb, wi64_in (n := (i : Int) + 1) (by omega)]
    unfold goneS
    cases decide (rowAtV t b (keyV t a[i]) < 0)
    · rw [cond_false, cond_false, List.append_nil]
    · rw [cond_true, cond_true, specKey_eq t h r1 _ hrow, lim_of (by unfold LIM; omega), cond_true]) (fun out rec => by
    show spec_RowsMend_l0_r _ _ _ t _ _ _ _ = _
    unfold spec_RowsMend_l0_r
    dsimp only
    rw [nI_ge, cond_false])
  refine this.trans ?_
  rw [List.nil_append]
theorem specChanged_loop (t : T) (h : msr yT t ≤ 1048576) (a b : List (List V)) (ha : rowsB t a = true) (hb : rowsB t b = true) (pre : List ST) (hp : pre.length ≤ 60) (k : List ST → Res) : spec_RowsMend_l1 a b (nI b.length) t FUEL pre 0 k = k (pre ++ b.flatMap (changedS t a)) := by
  obtain ⟨m1, m2, m3, m4, m5⟩ := msr_T h
  obtain ⟨r1, r2, r3⟩ := rowsB_parts hb
  obtain ⟨q1, q2, q3⟩ := rowsB_parts ha
  unfold spec_RowsMend_l1
  refine flat_loop b (fun i out => (out, i)) (changedS t a) 180 pre (step := spec_RowsMend_l1_s a b (nI b.length) t) k k (by unfold LIM; omega) (fun i hi _ => take_le _ (changedS_le t a) _ _ _ r2 (by omega)) (by omega) (fun i out rec hi ho hB => by
    show spec_RowsMend_l1_r _ _ _ t _ _ _ _ = _
    unfold spec_RowsMend_l1_r
    dsimp only
    have hrow := rowB_len (r3 _ (List.getElem_mem hi))
    rw [nI_lt hi, cond_true, inb_nat hi, cond_true, nth_nat _ _ _ hi, specKey_eq t h r1 _ hrow, specRowAt_eq t h a ha, wi64_in (n := (i : Int) + 1) (by omega)]
    unfold changedS
    have hr := (rowAtV_range t a (keyV t b[i])).2
    by_cases h0 : rowAtV t a (keyV t b[i]) ≥ 0
    · obtain ⟨j, hj⟩ : ∃ j : Nat, rowAtV t a (keyV t b[i]) = (j : Int) := ⟨(rowAtV t a (keyV t b[i])).toNat, by omega⟩
      have hj' : j < a.length := by omega
      have hrow' := rowB_len (q3 _ (List.getElem_mem hj'))
      rw [decide_eq_true h0, cond_true, cond_true, hj, inb_nat hj', cond_true, nth_nat _ _ _ hj', specSameVals_eq _ _ (by unfold LIM; omega)]
      cases alike zV veq a[j] b[i]
      · unfold spec_l03Row
        rw [Bool.not_false, cond_true, cond_true, specKey_eq t h r1 _ hrow, lim_of (by unfold LIM; omega), cond_true]
        dsimp only
        rw [lim_of (by unfold LIM; omega), cond_true]
      · rw [Bool.not_true, cond_false, cond_false, List.append_nil]
    · rw [decide_eq_false h0, cond_false, cond_false, List.append_nil]) (fun out rec => by
    show spec_RowsMend_l1_r _ _ _ t _ _ _ _ = _
    unfold spec_RowsMend_l1_r
    dsimp only
    rw [nI_ge, cond_false])
theorem specNew_loop (t : T) (h : msr yT t ≤ 1048576) (a b : List (List V)) (ha : rowsB t a = true) (hb : rowsB t b = true) (pre : List ST) (hp : pre.length ≤ 120) (k : List ST → Res) : spec_RowsMend_l2 a b (nI b.length) t FUEL pre 0 k = k (pre ++ b.flatMap (newS t a)) := by
  obtain ⟨m1, m2, m3, m4, m5⟩ := msr_T h
  obtain ⟨r1, r2, r3⟩ := rowsB_parts hb
  unfold spec_RowsMend_l2
  refine flat_loop b (fun i out => (out, i)) (newS t a) 180 pre (step := spec_RowsMend_l2_s a b (nI b.length) t) k k (by unfold LIM; omega) (fun i hi _ => take_le _ (newS_le t a) _ _ _ r2 hp) (by omega) (fun i out rec hi ho hB => by
    show spec_RowsMend_l2_r _ _ _ t _ _ _ _ = _
    unfold spec_RowsMend_l2_r
    dsimp only
    have hrow := rowB_len (r3 _ (List.getElem_mem hi))
    rw [nI_lt hi, cond_true, inb_nat hi, cond_true, nth_nat _ _ _ hi, specKey_eq t h r1 _ hrow, specRowAt_eq t h a ha, wi64_in (n := (i : Int) + 1) (by omega)]
    unfold newS
    cases decide (rowAtV t a (keyV t b[i]) < 0)
    · rw [cond_false, cond_false, List.append_nil]
    · unfold spec_l03Row
      rw [cond_true, cond_true, lim_of (by unfold LIM; omega), cond_true]
      dsimp only
      rw [lim_of (by unfold LIM; omega), cond_true]) (fun out rec => by
    show spec_RowsMend_l2_r _ _ _ t _ _ _ _ = _
    unfold spec_RowsMend_l2_r
    dsimp only
    rw [nI_ge, cond_false])
theorem implGone_loop (t : T) (h : msr yT t ≤ 1048576) (a b : List (List V)) (ha : rowsB t a = true) (hb : rowsB t b = true) (k : List ST → Res) : impl_rowsMend_l0 b a (nI a.length) t FUEL [] 0 k = k (a.flatMap (goneS t b)) := by
  obtain ⟨r1, r2, r3⟩ := rowsB_parts ha
  unfold impl_rowsMend_l0
  have := flat_loop a (fun i out => (out, i)) (goneS t b) 180 [] (step := impl_rowsMend_l0_s b a (nI a.length) t) k k (by unfold LIM; omega) (fun i hi _ => take_le _ (goneS_le t b) _ _ _ r2 (by simp)) (by simp) (fun i out rec hi ho hB => by
    show impl_rowsMend_l0_r _ _ _ t _ _ _ _ = _
    unfold impl_rowsMend_l0_r
    dsimp only
    have hrow := rowB_len (r3 _ (List.getElem_mem hi))
    rw [nI_lt hi, cond_true, inb_nat hi, cond_true, nth_nat _ _ _ hi, implKey_eq t h r1 _ hrow, implRowAt_eq t h b hb, wi64_in (n := (i : Int) + 1) (by omega)]
    unfold goneS
    cases decide (rowAtV t b (keyV t a[i]) < 0)
    · rw [cond_false, cond_false, List.append_nil]
    · rw [cond_true, cond_true, lim_of (by unfold LIM; omega), cond_true]) (fun out rec => by
    show impl_rowsMend_l0_r _ _ _ t _ _ _ _ = _
    unfold impl_rowsMend_l0_r
    dsimp only
    rw [nI_ge, cond_false])
  refine this.trans ?_
  rw [List.nil_append]
theorem implChanged_loop (t : T) (h : msr yT t ≤ 1048576) (a b : List (List V)) (ha : rowsB t a = true) (hb : rowsB t b = true) (pre : List ST) (hp : pre.length ≤ 60) (k : List ST → Res) : impl_rowsMend_l1 a b (nI b.length) t FUEL pre 0 k = k (pre ++ b.flatMap (changedS t a)) := by
  obtain ⟨m1, m2, m3, m4, m5⟩ := msr_T h
  obtain ⟨r1, r2, r3⟩ := rowsB_parts hb
  obtain ⟨q1, q2, q3⟩ := rowsB_parts ha
  unfold impl_rowsMend_l1
  refine flat_loop b (fun i out => (out, i)) (changedS t a) 180 pre (step := impl_rowsMend_l1_s a b (nI b.length) t) k k (by unfold LIM; omega) (fun i hi _ => take_le _ (changedS_le t a) _ _ _ r2 (by omega)) (by omega) (fun i out rec hi ho hB => by
    show impl_rowsMend_l1_r _ _ _ t _ _ _ _ = _
    unfold impl_rowsMend_l1_r
    dsimp only
    have hrow := rowB_len (r3 _ (List.getElem_mem hi))
    rw [nI_lt hi, cond_true, inb_nat hi, cond_true, nth_nat _ _ _ hi, implKey_eq t h r1 _ hrow, implRowAt_eq t h a ha, wi64_in (n := (i : Int) + 1) (by omega)]
    unfold changedS
    have hr := (rowAtV_range t a (keyV t b[i])).2
    by_cases h0 : rowAtV t a (keyV t b[i]) ≥ 0
    · obtain ⟨j, hj⟩ : ∃ j : Nat, rowAtV t a (keyV t b[i]) = (j : Int) := ⟨(rowAtV t a (keyV t b[i])).toNat, by omega⟩
      have hj' : j < a.length := by omega
      have hrow' := rowB_len (q3 _ (List.getElem_mem hj'))
      rw [decide_eq_true h0, cond_true, cond_true, hj, inb_nat hj', cond_true, nth_nat _ _ _ hj', implSameVals_eq _ _ (by unfold LIM; omega)]
      cases alike zV veq a[j] b[i]
      · unfold impl_copyVals
        rw [Bool.not_false, cond_true, cond_true, lim_of (by unfold LIM; omega), cond_true]
        dsimp only
        rw [lim_of (by unfold LIM; omega), cond_true]
      · rw [Bool.not_true, cond_false, cond_false, List.append_nil]
    · rw [decide_eq_false h0, cond_false, cond_false, List.append_nil]) (fun out rec => by
    show impl_rowsMend_l1_r _ _ _ t _ _ _ _ = _
    unfold impl_rowsMend_l1_r
    dsimp only
    rw [nI_ge, cond_false])
theorem implNew_loop (t : T) (h : msr yT t ≤ 1048576) (a b : List (List V)) (ha : rowsB t a = true) (hb : rowsB t b = true) (pre : List ST) (hp : pre.length ≤ 120) (k : List ST → Res) : impl_rowsMend_l2 a b (nI b.length) t FUEL pre 0 k = k (pre ++ b.flatMap (newS t a)) := by
  obtain ⟨m1, m2, m3, m4, m5⟩ := msr_T h
  obtain ⟨r1, r2, r3⟩ := rowsB_parts hb
  unfold impl_rowsMend_l2
  refine flat_loop b (fun i out => (out, i)) (newS t a) 180 pre (step := impl_rowsMend_l2_s a b (nI b.length) t) k k (by unfold LIM; omega) (fun i hi _ => take_le _ (newS_le t a) _ _ _ r2 hp) (by omega) (fun i out rec hi ho hB => by
    show impl_rowsMend_l2_r _ _ _ t _ _ _ _ = _
    unfold impl_rowsMend_l2_r
    dsimp only
    have hrow := rowB_len (r3 _ (List.getElem_mem hi))
    rw [nI_lt hi, cond_true, inb_nat hi, cond_true, nth_nat _ _ _ hi, implKey_eq t h r1 _ hrow, implRowAt_eq t h a ha, wi64_in (n := (i : Int) + 1) (by omega)]
    unfold newS
    cases decide (rowAtV t a (keyV t b[i]) < 0)
    · rw [cond_false, cond_false, List.append_nil]
    · unfold impl_copyVals
      rw [cond_true, cond_true, lim_of (by unfold LIM; omega), cond_true]
      dsimp only
      rw [lim_of (by unfold LIM; omega), cond_true]) (fun out rec => by
    show impl_rowsMend_l2_r _ _ _ t _ _ _ _ = _
    unfold impl_rowsMend_l2_r
    dsimp only
    rw [nI_ge, cond_false])
theorem specRowsMend_eq (t : T) (h : msr yT t ≤ 1048576) (a b : List (List V)) (k : List ST → Bool → Res) : spec_RowsMend t a b k = bif rowsB t a && rowsB t b then k (mendS t a b) true else k [] false := by
  unfold spec_RowsMend
  rw [specRows_eq t h, specRows_eq t h]
  cases ha : rowsB t a
  · rfl
  · cases hb : rowsB t b
    · rfl
    · obtain ⟨r1, r2, r3⟩ := rowsB_parts hb
      obtain ⟨q1, q2, q3⟩ := rowsB_parts ha
      have g1 := flat_le _ (goneS_le t b) a
      have g2 := flat_le _ (changedS_le t a) b
      rw [Bool.not_true, cond_false, cond_false, specGone_loop t h a b ha hb, specChanged_loop t h a b ha hb _ (by omega), specNew_loop t h a b ha hb _ (by rw [List.length_append]; omega)]
      rfl
theorem implRowsMend_eq (t : T) (h : msr yT t ≤ 1048576) (a b : List (List V)) (ha : rowsB t a = true) (hb : rowsB t b = true) (k : List ST → Res) : impl_rowsMend t a b k = k (mendS t a b) := by
  unfold impl_rowsMend
  obtain ⟨r1, r2, r3⟩ := rowsB_parts hb
  obtain ⟨q1, q2, q3⟩ := rowsB_parts ha
  have g1 := flat_le _ (goneS_le t b) a
  have g2 := flat_le _ (changedS_le t a) b
  rw [implGone_loop t h a b ha hb, implChanged_loop t h a b ha hb _ (by omega), implNew_loop t h a b ha hb _ (by rw [List.length_append]; omega)]
  rfl
end Go.PI.G
namespace Go.PI.G
open Go Go.PI Go.Proofs

theorem implSameCols_eq (a b : List C) (ha : a.length ≤ LIM) (k : Bool → Res) : slices_Equal_Col a b k = k (alike zC ceq a b) := by
  unfold slices_Equal_Col
  by_cases hl : a.length = b.length
  · rw [len_eq hl, cond_false]
    unfold slices_Equal_Col_l0
    unfold LIM at ha
    have := alike_loop zC ceq a b (step := slices_Equal_Col_l0_s a b (nI a.length)) ((fun (_ : Unit) => k true), (fun (_ : Unit) => k false)) (k true) (k false) ha hl (fun i rec hi hj => by
      show slices_Equal_Col_l0_r _ _ _ _ _ _ _ = _
      unfold slices_Equal_Col_l0_r
      rw [nI_lt hi, cond_true, inb_nat hi, cond_true, inb_nat hj, cond_true, nth_nat _ _ _ hi, nth_nat _ _ _ hj, wi64_in (n := (i : Int) + 1) (by omega)]
      show (bif !ceq a[i] b[i] then _ else _) = _
      cases ceq a[i] b[i] <;> rfl) (fun rec => by
      show slices_Equal_Col_l0_r _ _ _ _ _ _ _ = _
      unfold slices_Equal_Col_l0_r
      rw [nI_ge, cond_false])
    refine this.trans ?_
    cases alike zC ceq a b <;> rfl
  · rw [len_ne hl, cond_true, alike_ne hl]
theorem implSameStr_eq (a b : List ByteArray) (ha : a.length ≤ LIM) (k : Bool → Res) : slices_Equal_string a b k = k (alike eS sEq a b) := by
  unfold slices_Equal_string
  by_cases hl : a.length = b.length
  · rw [len_eq hl, cond_false]
    unfold slices_Equal_string_l0
    unfold LIM at ha
    have := alike_loop eS sEq a b (step := slices_Equal_string_l0_s a b (nI a.length)) ((fun (_ : Unit) => k true), (fun (_ : Unit) => k false)) (k true) (k false) ha hl (fun i rec hi hj => by
      show slices_Equal_string_l0_r _ _ _ _ _ _ _ = _
      unfold slices_Equal_string_l0_r
      rw [nI_lt hi, cond_true, inb_nat hi, cond_true, inb_nat hj, cond_true, nth_nat _ _ _ hi, nth_nat _ _ _ hj, wi64_in (n := (i : Int) + 1) (by omega)]
      show (bif !sEq a[i] b[i] then _ else _) = _
      cases sEq a[i] b[i] <;> rfl) (fun rec => by
      show slices_Equal_string_l0_r _ _ _ _ _ _ _ = _
      unfold slices_Equal_string_l0_r
      rw [nI_ge, cond_false])
    refine this.trans ?_
    cases alike eS sEq a b <;> rfl
  · rw [len_ne hl, cond_true, alike_ne hl]

def sameT (a b : T) : Bool := sEq a.1 b.1 && (alike zC ceq a.2.1 b.2.1 && alike eS sEq a.2.2 b.2.2)
theorem alike_iff {α : Type} {z : α} {f : α → α → Bool} (hf : ∀ x y, f x y = true → x = y) {a b : List α} (h : alike z f a b = true) : a = b := by
  unfold alike at h
  simp only [Bool.and_eq_true, decide_eq_true_eq, Bool.not_eq_true'] at h
  refine List.ext_getElem h.1 fun i h1 h2 => ?_
  have := anyI_false a 0 h.2 i h1
  rw [Bool.not_eq_false', show 0 + i = i by omega, nth_nat _ _ _ h2] at this
  exact hf _ _ this
theorem ceq_iff (a b : C) (h : ceq a b = true) : a = b := by
  obtain ⟨a1, a2, a3, a4, a5, a6, a7⟩ := a
  obtain ⟨b1, b2, b3, b4, b5, b6, b7⟩ := b
  unfold ceq at h
  simp only [Bool.and_eq_true, beq_iff_eq, sEq_iff] at h
  obtain ⟨rfl, rfl, rfl, rfl, rfl, rfl, rfl⟩ := h
  rfl
theorem sameT_iff {a b : T} (h : sameT a b = true) : a = b := by
  obtain ⟨a1, a2, a3⟩ := a
  obtain ⟨b1, b2, b3⟩ := b
  unfold sameT at h
  simp only [Bool.and_eq_true, sEq_iff] at h
  obtain ⟨rfl, h2, h3⟩ := h
  have := alike_iff ceq_iff h2
  have := alike_iff (fun x y hxy => (sEq_iff x y).1 hxy) h3
  simp_all
theorem specSame_eq (a b : T) (ha : msr yT a ≤ 1048576) (hb : msr yT b ≤ 1048576) (ta : tabB a = true) (tb : tabB b = true) (k : Bool → Res) : spec_SameTable a b k = k (sameT a b) := by
  obtain ⟨m1, m2, m3, m4, m5⟩ := msr_T ha
  unfold spec_SameTable spec_SameTable_p0 sameT
  rw [specTab_eq a ha, specTab_eq b hb, ta, tb, Bool.not_true, cond_false, cond_false]
  show (bif !sEq a.1 b.1 then _ else _) = _
  cases sEq a.1 b.1
  · rfl
  · rw [Bool.not_true, cond_false, Bool.true_and]
    by_cases h1 : a.2.1.length = b.2.1.length
    · rw [len_eq h1, cond_false]
      by_cases h2 : a.2.2.length = b.2.2.length
      · rw [len_eq h2]
        dsimp only
        rw [cond_false]
        unfold spec_SameTable_l2
        have e1 := alike_loop zC ceq a.2.1 b.2.1 (step := spec_SameTable_l2_s (nI a.2.1.length) a b) ((fun (_ : Unit) => spec_SameTable_l3 (nI a.2.2.length) a b FUEL 0 (fun (_ : Unit) => k true) (fun (_ : Unit) => k false)), (fun (_ : Unit) => k false)) (spec_SameTable_l3 (nI a.2.2.length) a b FUEL 0 (fun (_ : Unit) => k true) (fun (_ : Unit) => k false)) (k false) (by unfold LIM; omega) h1 (fun i rec hi hj => by
          show spec_SameTable_l2_r _ a b _ _ _ _ = _
          unfold spec_SameTable_l2_r spec_SameTable_p1
          rw [nI_lt hi, cond_true, inb_nat hi, cond_true, inb_nat hj, cond_true, nth_nat _ _ _ hi, nth_nat _ _ _ hj, wi64_in (n := (i : Int) + 1) (by omega)]
          show (bif !ceq a.2.1[i] b.2.1[i] then _ else _) = _
          cases ceq a.2.1[i] b.2.1[i] <;> rfl) (fun rec => by
          show spec_SameTable_l2_r _ a b _ _ _ _ = _
          unfold spec_SameTable_l2_r
          rw [nI_ge, cond_false])
        refine e1.trans ?_
        cases alike zC ceq a.2.1 b.2.1
        · rfl
        · rw [cond_true, Bool.true_and]
          unfold spec_SameTable_l3
          have e2 := alike_loop eS sEq a.2.2 b.2.2 (step := spec_SameTable_l3_s (nI a.2.2.length) a b) ((fun (_ : Unit) => k true), (fun (_ : Unit) => k false)) (k true) (k false) (by unfold LIM; omega) h2 (fun i rec hi hj => by
            show spec_SameTable_l3_r _ a b _ _ _ _ = _
            unfold spec_SameTable_l3_r
            rw [nI_lt hi, cond_true, inb_nat hi, cond_true, inb_nat hj, cond_true, nth_nat _ _ _ hi, nth_nat _ _ _ hj, wi64_in (n := (i : Int) + 1) (by omega)]
            show (bif !sEq a.2.2[i] b.2.2[i] then _ else _) = _
            cases sEq a.2.2[i] b.2.2[i] <;> rfl) (fun rec => by
            show spec_SameTable_l3_r _ a b _ _ _ _ = _
            unfold spec_SameTable_l3_r
            rw [nI_ge, cond_false])
          refine e2.trans ?_
          cases alike eS sEq a.2.2 b.2.2 <;> rfl
      · rw [len_ne h2]
        dsimp only
        rw [cond_true, alike_ne h2, Bool.and_false]
    · rw [len_ne h1, cond_true]
      dsimp only
      rw [cond_true, alike_ne h1, Bool.false_and]
theorem implSame_eq (a b : T) (ha : msr yT a ≤ 1048576) (k : Bool → Res) : impl_equalTables a b k = k (sameT a b) := by
  obtain ⟨m1, m2, m3, m4, m5⟩ := msr_T ha
  unfold impl_equalTables sameT
  rw [implSameCols_eq _ _ (by unfold LIM; omega), implSameStr_eq _ _ (by unfold LIM; omega)]
  cases sEq a.1 b.1
  · rfl
  · cases alike zC ceq a.2.1 b.2.1 <;> rfl
theorem implAll_eq (a b : List T) (ha : msr (.slice yT) a ≤ 1048576) (k : Bool → Res) : slices_EqualFunc_Table a b () k = k (alike zT sameT a b) := by
  obtain ⟨m1, m2⟩ := msr_cat ha
  unfold slices_EqualFunc_Table
  by_cases hl : a.length = b.length
  · rw [len_eq hl, cond_false]
    unfold slices_EqualFunc_Table_l0
    have := alike_loop zT sameT a b (step := slices_EqualFunc_Table_l0_s b a (nI a.length)) ((fun (_ : Unit) => k true), (fun (_ : Unit) => k false)) (k true) (k false) (by unfold LIM; omega) hl (fun i rec hi hj => by
      show slices_EqualFunc_Table_l0_r _ _ _ _ _ _ _ = _
      unfold slices_EqualFunc_Table_l0_r
      rw [nI_lt hi, cond_true, inb_nat hi, cond_true, inb_nat hj, cond_true, nth_nat _ _ _ hi, nth_nat _ _ _ hj, implSame_eq _ _ (m2 _ (List.getElem_mem hi)), wi64_in (n := (i : Int) + 1) (by omega)]
      cases sameT a[i] b[i] <;> rfl) (fun rec => by
      show slices_EqualFunc_Table_l0_r _ _ _ _ _ _ _ = _
      unfold slices_EqualFunc_Table_l0_r
      rw [nI_ge, cond_false])
    refine this.trans ?_
    cases alike zT sameT a b <;> rfl
  · rw [len_ne hl, cond_true, alike_ne hl]

/-! ### all tables -/
def mendAt (a b : DB) (i : Nat) (t : T) : List ST := mendS t (nth [] a.2 (i : Int)) (nth [] b.2 (i : Int))
def mendW (a b : DB) : Except Unit (List ST) := walkL (fun i out t => .ok (out ++ mendAt a b i t)) 0 a.1 []
def mendV (a b : DB) : List ST := match mendW a b with | .ok l => l | .error _ => []
theorem walk_same {α β : Type} (f : Nat → α → Bool) (g : Nat → α → List β) : (l : List α) → (i : Nat) → (out : List β) → walkL (fun i out t => bif f i t then (.ok (out ++ g i t) : Except Unit (List β)) else .error ()) i l out = bif anyI (fun i t => !f i t) i l then .error () else walkL (fun i out t => (.ok (out ++ g i t) : Except Unit (List β))) i l out
  | [], _, _ => rfl
  | x :: l, i, out => by
    simp only [walkL, anyI]
    cases f i x
    · rfl
    · exact walk_same f g l (i + 1) _
theorem walk_ok {α β : Type} (g : Nat → α → List β) : (l : List α) → (i : Nat) → (out : List β) → ∃ r, walkL (fun i out t => (.ok (out ++ g i t) : Except Unit (List β))) i l out = .ok r
  | [], _, out => ⟨out, rfl⟩
  | x :: l, i, out => walk_ok g l (i + 1) _
theorem mendW_ok (a b : DB) : mendW a b = .ok (mendV a b) := by
  obtain ⟨r, hr⟩ := walk_ok (mendAt a b) a.1 0 []
  have : mendW a b = .ok r := hr
  unfold mendV
  rw [this]
theorem catB_len {c : List T} (h : catB c = true) : c.length ≤ 6 := by
  unfold catB at h
  rw [Bool.and_eq_true, decide_eq_true_eq] at h
  exact h.1
theorem specMend_eq (a b : DB) (ha : msr yDB a ≤ 1048576) (hb : msr yDB b ≤ 1048576) (k : List ST → Bool → Res) : spec_Mend a b k = bif dbB a && (dbB b && alike zT sameT a.1 b.1) then k (mendV a b) true else k [] false := by
  obtain ⟨m1, m2, m3, m4, m5⟩ := msr_DB ha
  obtain ⟨n1, n2, n3, n4, n5⟩ := msr_DB hb
  unfold spec_Mend
  rw [specDb_eq a ha, specDb_eq b hb]
  cases da : dbB a
  · rfl
  · cases db : dbB b
    · rfl
    · rw [Bool.not_true, cond_false, cond_false, Bool.true_and, Bool.true_and]
      obtain ⟨p1, p2, p3⟩ := dbB_parts da
      obtain ⟨q1, q2, q3⟩ := dbB_parts db
      have hc := catB_len p1
      by_cases hl : a.2.length = b.2.length
      · have hl' : a.1.length = b.1.length := by omega
        rw [len_eq hl, cond_false]
        unfold spec_Mend_l0
        have := walk_loop a.1 (fun i out => (out, i)) (fun i out t => bif sameT t (nth zT b.1 (i : Int)) then (.ok (out ++ mendAt a b i t) : Except Unit (List ST)) else .error ()) (fun i out => out.length ≤ 180 * i) (step := spec_Mend_l0_s a.1 (nI a.1.length) a b) ((fun (out : List ST) => k out true), (fun (_ : Unit) => k [] false)) (fun out => k out true) (fun _ => k [] false) [] (by unfold LIM; omega) (by simp) (fun i out out' hi ho hf => by
          have h1 : i < b.1.length := by omega
          have h2 : i < a.2.length := by omega
          have h3 : i < b.2.length := by omega
          cases hs : sameT a.1[i] (nth zT b.1 (i : Int))
          · rw [hs] at hf; cases hf
          · rw [hs, cond_true] at hf
            cases hf
            have := mendS_le a.1[i] a.2[i] b.2[i] (rowsB_parts (p3 i hi h2)).2.1 (rowsB_parts (q3 i h1 h3)).2.1
            unfold mendAt
            rw [nth_nat _ _ _ h2, nth_nat _ _ _ h3, List.length_append]
            omega) (fun i out rec hi ho => by
          have h1 : i < b.1.length := by omega
          have h2 : i < a.2.length := by omega
          have h3 : i < b.2.length := by omega
          show spec_Mend_l0_r _ _ a b _ _ _ _ _ = _
          unfold spec_Mend_l0_r
          dsimp only
          rw [nI_lt hi, cond_true, inb_nat hi, cond_true, inb_nat h1, cond_true, nth_nat _ _ _ hi, nth_nat _ _ _ h1, specSame_eq _ _ (m4 _ (List.getElem_mem hi)) (n4 _ (List.getElem_mem h1)) (rowsB_parts (p3 i hi h2)).1 (rowsB_parts (q3 i h1 h3)).1, wi64_in (n := (i : Int) + 1) (by omega)]
          cases hs : sameT a.1[i] b.1[i]
          · rfl
          · have hte := sameT_iff hs
            have hrb := q3 i h1 h3
            rw [← hte] at hrb
            have := mendS_le a.1[i] a.2[i] b.2[i] (rowsB_parts (p3 i hi h2)).2.1 (rowsB_parts hrb).2.1
            unfold mendAt
            rw [Bool.not_true, cond_false, inb_nat h2, cond_true, inb_nat h3, cond_true, nth_nat _ _ _ h2, nth_nat _ _ _ h3, specRowsMend_eq _ (m4 _ (List.getElem_mem hi)), p3 i hi h2, hrb, Bool.and_true, cond_true, lim_of (by unfold LIM; omega), cond_true, cond_true]) (fun out rec ho => by
          show spec_Mend_l0_r _ _ a b _ _ _ _ _ = _
          unfold spec_Mend_l0_r
          dsimp only
          rw [nI_ge, cond_false])
        refine this.trans ?_
        rw [walk_same (fun i t => sameT t (nth zT b.1 (i : Int))) (mendAt a b)]
        unfold alike
        rw [decide_eq_true hl', Bool.true_and]
        cases anyI (fun i t => !sameT t (nth zT b.1 (i : Int))) 0 a.1
        · have hw : walkL (fun i out t => (.ok (out ++ mendAt a b i t) : Except Unit (List ST))) 0 a.1 [] = .ok (mendV a b) := mendW_ok a b
          rw [cond_false, hw]
          rfl
        · rfl
      · rw [len_ne hl, cond_true, alike_ne (by omega), cond_false]
theorem implMend_eq (a b : DB) (ha : msr yDB a ≤ 1048576) (hb : msr yDB b ≤ 1048576) (k : List ST → Bool → Res) : impl_Mend a b k = bif dbB a && (dbB b && alike zT sameT a.1 b.1) then k (mendV a b) true else k [] false := by
  obtain ⟨m1, m2, m3, m4, m5⟩ := msr_DB ha
  unfold impl_Mend
  rw [implDb_eq a ha, implDb_eq b hb]
  cases da : dbB a
  · rfl
  · cases db : dbB b
    · rfl
    · rw [Bool.not_true, cond_false, cond_false, Bool.true_and, Bool.true_and, implAll_eq _ _ m1]
      obtain ⟨p1, p2, p3⟩ := dbB_parts da
      obtain ⟨q1, q2, q3⟩ := dbB_parts db
      have hc := catB_len p1
      cases hal : alike zT sameT a.1 b.1
      · rfl
      · have hte := alike_iff (fun x y h => sameT_iff h) hal
        have hl' : a.1.length = b.1.length := by rw [hte]
        rw [Bool.not_true, cond_false, cond_true]
        unfold impl_Mend_l0
        have := walk_loop a.1 (fun i out => (out, i)) (fun i out t => (.ok (out ++ mendAt a b i t) : Except Unit (List ST))) (fun i out => out.length ≤ 180 * i) (step := impl_Mend_l0_s a.1 (nI a.1.length) a b) (fun (out : List ST) => k out true) (fun out => k out true) (fun _ => k [] false) [] (by unfold LIM; omega) (by simp) (fun i out out' hi ho hf => by
          have h1 : i < b.1.length := by omega
          have h2 : i < a.2.length := by omega
          have h3 : i < b.2.length := by omega
          cases hf
          have := mendS_le a.1[i] a.2[i] b.2[i] (rowsB_parts (p3 i hi h2)).2.1 (rowsB_parts (q3 i h1 h3)).2.1
          unfold mendAt
          rw [nth_nat _ _ _ h2, nth_nat _ _ _ h3, List.length_append]
          omega) (fun i out rec hi ho => by
          have h1 : i < b.1.length := by omega
          have h2 : i < a.2.length := by omega
          have h3 : i < b.2.length := by omega
          show impl_Mend_l0_r _ _ a b _ _ _ _ = _
          unfold impl_Mend_l0_r
          dsimp only
          have hrb : rowsB a.1[i] b.2[i] = true := by
            have := q3 i h1 h3
            simp only [← hte] at this
            exact this
          have := mendS_le a.1[i] a.2[i] b.2[i] (rowsB_parts (p3 i hi h2)).2.1 (rowsB_parts hrb).2.1
          unfold mendAt
          rw [nI_lt hi, cond_true, inb_nat hi, cond_true, inb_nat h2, cond_true, inb_nat h3, cond_true, nth_nat _ _ _ hi, nth_nat _ _ _ h2, nth_nat _ _ _ h3, implRowsMend_eq _ (m4 _ (List.getElem_mem hi)) _ _ (p3 i hi h2) hrb, lim_of (by unfold LIM; omega), cond_true, wi64_in (n := (i : Int) + 1) (by omega)]) (fun out rec ho => by
          show impl_Mend_l0_r _ _ a b _ _ _ _ = _
          unfold impl_Mend_l0_r
          dsimp only
          rw [nI_ge, cond_false])
        refine this.trans ?_
        have hw : walkL (fun i out t => (.ok (out ++ mendAt a b i t) : Except Unit (List ST))) 0 a.1 [] = .ok (mendV a b) := mendW_ok a b
        rw [hw]
end Go.PI.G
namespace Go.PI.G
open Go Go.PI

abbrev yST : Ty := .pair (.int .i64) (.pair .str (.pair (.slice yV) (.pair (.slice yV) (.pair (.int .i64) (.pair .str (.pair (.slice yC) (.pair (.slice .str) (.pair .str .str))))))))
theorem keysUp_len' {l : List C} : (ks : List ByteArray) → (last : Int) → last < (l.length : Int) → keysUp l last ks = true → last + (ks.length : Int) < (l.length : Int)
  | [], last, h0, _ => by simpa using h0
  | q :: ks, last, h0, h => by
    simp only [keysUp, Bool.and_eq_true, Bool.not_eq_true', decide_eq_false_iff_not] at h
    have h1 := keysUp_len' ks (colAt l q) (colAt_range l q).2 h.2.2
    rw [List.length_cons]
    omega
theorem keys_le' {t : T} (h : tabB t = true) : t.2.2.length ≤ 8 := by
  have hp := tabB_parts h
  have := keysUp_len' t.2.2 (-1) (by omega) hp.2.2.2.2.2
  omega
theorem rowB_get' {l : List C} {r : List V} (h : rowB l r = true) (i : Nat) (hi : i < l.length) : valB (nth zV r (i : Int)) = true := by
  unfold rowB at h
  simp only [Bool.and_eq_true, Bool.not_eq_true'] at h
  have := anyI_false l 0 h.2 i hi
  rw [Bool.not_eq_false', show 0 + i = i by omega] at this
  unfold fits at this
  rw [Bool.and_eq_true] at this
  exact this.1
theorem msr_le {e : Ty} {l : List (El e)} {n B : Nat} (hl : l.length ≤ n) (hx : ∀ x ∈ l, msr e x ≤ B) : msr (.slice e) l ≤ n + n * B := by
  have h1 : msr (.slice e) l = l.length + (l.map (msr e)).sum := rfl
  have h2 : ∀ (l : List (El e)), (∀ x ∈ l, msr e x ≤ B) → (l.map (msr e)).sum ≤ l.length * B := by
    intro l
    induction l with
    | nil => intro _; simp
    | cons x l ih =>
      intro hx
      have e1 := hx x (by simp)
      have e2 := ih fun y hy => hx y (List.mem_cons_of_mem _ hy)
      simp only [List.map_cons, List.sum_cons, List.length_cons]
      rw [Nat.add_mul]; omega
  have h3 := h2 l hx
  have h4 : l.length * B ≤ n * B := Nat.mul_le_mul_right _ hl
  omega
theorem val_msr {v : V} (h : valB v = true) : msr yV v ≤ 30 := by
  have hs := valB_size h
  have : msr yV v = 0 + (0 + v.2.2.size) := rfl
  omega
theorem key_msr' {t : T} {r : List V} (ht : tabB t = true) (hr : rowB t.2.1 r = true) : msr (.slice yV) (keyV t r) ≤ 248 := by
  refine msr_le (n := 8) (B := 30) (by rw [keyV_len]; exact keys_le' ht) (fun v hv => ?_)
  obtain ⟨n, hn, rfl⟩ := List.mem_map.1 hv
  have hk := keysUp_range t.2.2 (-1) (by omega) (tabB_parts ht).2.2.2.2.2 n hn
  have hv := rowB_get' hr (colAt t.2.1 n).toNat (by omega)
  rw [show (((colAt t.2.1 n).toNat : Nat) : Int) = colAt t.2.1 n by omega] at hv
  exact val_msr hv
theorem row_msr {t : T} {r : List V} (ht : tabB t = true) (hr : rowB t.2.1 r = true) : msr (.slice yV) r ≤ 248 := by
  have hl := rowB_len hr
  have hp := tabB_parts ht
  refine msr_le (n := 8) (B := 30) (by omega) (fun v hv => ?_)
  obtain ⟨i, hi, rfl⟩ := List.getElem_of_mem hv
  have := rowB_get' hr i (by omega)
  rw [nth_nat _ _ _ hi] at this
  exact val_msr this
theorem word_le {s : ByteArray} (h : wordB s = true) : s.size ≤ 8 := by
  unfold wordB at h
  simp only [Bool.and_eq_true, decide_eq_true_eq] at h
  exact h.2.2
theorem st_msr (n : Int) (s : ByteArray) (a b : List V) : msr yST (n, s, a, b, 0, eS, [], [], eS, eS) = s.size + (msr (.slice yV) a + msr (.slice yV) b) := by
  have : msr yST (n, s, a, b, 0, eS, [], [], eS, eS) = 0 + (s.size + (msr (.slice yV) a + (msr (.slice yV) b + (0 + (0 + (0 + (0 + (0 + 0)))))))) := rfl
  omega
theorem nil_msr : msr (.slice yV) [] = 0 := rfl
theorem mendS_msr' (t : T) (a b : List (List V)) (ha : rowsB t a = true) (hb : rowsB t b = true) : msr (.slice yST) (mendS t a b) ≤ 108180 := by
  obtain ⟨r1, r2, r3⟩ := rowsB_parts hb
  obtain ⟨q1, q2, q3⟩ := rowsB_parts ha
  have hw := word_le (tabB_parts r1).1
  refine Nat.le_trans (msr_le (n := 180) (B := 600) (mendS_le t a b q2 r2) fun x hx => ?_) (by omega)
  unfold mendS at hx
  rcases List.mem_append.1 hx with hx | hx
  · rcases List.mem_append.1 hx with hx | hx
    · obtain ⟨r, hr, hx⟩ := List.mem_flatMap.1 hx
      have h1 := key_msr' q1 (q3 r hr)
      unfold goneS at hx
      cases hc : decide (rowAtV t b (keyV t r) < 0)
      · rw [hc] at hx; cases hx
      · rw [hc, cond_true, List.mem_singleton] at hx
        subst hx
        rw [st_msr, nil_msr]; omega
    · obtain ⟨r, hr, hx⟩ := List.mem_flatMap.1 hx
      have h1 := key_msr' r1 (r3 r hr)
      have h2 := row_msr r1 (r3 r hr)
      unfold changedS at hx
      cases hc : decide (rowAtV t a (keyV t r) ≥ 0)
      · rw [hc] at hx; cases hx
      · rw [hc, cond_true] at hx
        cases hd : alike zV veq (nth [] a (rowAtV t a (keyV t r))) r
        · rw [hd, Bool.not_false, cond_true, List.mem_singleton] at hx
          subst hx
          rw [st_msr]; omega
        · rw [hd] at hx; cases hx
  · obtain ⟨r, hr, hx⟩ := List.mem_flatMap.1 hx
    have h2 := row_msr r1 (r3 r hr)
    unfold newS at hx
    cases hc : decide (rowAtV t a (keyV t r) < 0)
    · rw [hc] at hx; cases hx
    · rw [hc, cond_true, List.mem_singleton] at hx
      subst hx
      rw [st_msr, nil_msr]; omega
theorem mendS_msr (t : T) (a b : List (List V)) (ha : rowsB t a = true) (hb : rowsB t b = true) : msr (.slice yST) (mendS t a b) ≤ 1048576 := Nat.le_trans (mendS_msr' t a b ha hb) (by omega)
end Go.PI.G
namespace Go.PI.G
open Go Go.PI Go.Proofs

theorem markText_loop (k : ByteArray → Res) : ∀ (m n d : Nat) (s : ByteArray), n < m → 0 < n → n ≤ 4294967296 → n < 10 ^ (d + 1) → s.size + d ≤ 1000 →
    iter laws_markText_l0_s m ((n : Int), s) k = k (digt n ++ s)
  | 0, n, d, s, h, _, _, _, _ => by omega
  | m + 1, n, d, s, h, hn, hb, hd, hs => by
    rw [iter_succ]
    show laws_markText_l0_r _ _ _ _ = _
    unfold laws_markText_l0_r
    have h9 : decide ((n : Int) > 0) = true := decide_eq_true (by omega)
    rw [h9, cond_true, tdiv_nat, tmod_nat, wi64_of (n := ((n / 10 : Nat) : Int)) (by omega) (by omega)]
    show (bif lim ((dgt ((n % 10 : Nat) : Int)).size + s.size) then iter laws_markText_l0_s m (((n / 10 : Nat) : Int), dgt ((n % 10 : Nat) : Int) ++ s) k else none) = _
    rw [dgt_size, lim_of (by unfold LIM; omega), cond_true]
    by_cases h1 : n < 10
    · have h10 : n / 10 = 0 := by omega
      have h11 : n % 10 = n := by omega
      rw [h10, h11, digt_lo h1]
      obtain ⟨m, rfl⟩ : ∃ e, m = e + 1 := ⟨m - 1, by omega⟩
      rw [iter_succ]
      show laws_markText_l0_r _ _ _ _ = _
      unfold laws_markText_l0_r
      have h0 : decide (((0 : Nat) : Int) > 0) = false := decide_eq_false (by omega)
      rw [h0, cond_false]
    · obtain ⟨d, rfl⟩ : ∃ e, d = e + 1 := by
        cases d with
        | zero => exact absurd (by simpa using hd) h1
        | succ d => exact ⟨d, rfl⟩
      rw [markText_loop k m (n / 10) d _ (by omega) (by omega) (by omega) (Nat.div_lt_of_lt_mul (by rw [Nat.pow_succ] at hd; omega)) (by rw [ByteArray.size_append, dgt_size]; omega), digt_hi h1, ByteArray.append_assoc]
theorem markText_eq (k : Int) (h : 1 ≤ k ∧ k ≤ 4294967296) (K : ByteArray → Res) : laws_markText k K = K (mT k) := by
  unfold laws_markText laws_markText_l0
  have h0 : decide (k ≤ 0) = false := decide_eq_false (by omega)
  have := markText_loop (fun (out : ByteArray) => bif lim (1 + (ByteArray.size out)) then K (z_m ++ out) else none) FUEL k.toNat 12 eS (FUEL_lt (by omega)) (by omega) (by omega) (by omega) (by show 0 + 12 ≤ 1000; omega)
  rw [show ((k.toNat : Nat) : Int) = k by omega, eS_app] at this
  rw [h0, cond_false]
  refine this.trans ?_
  have hs := digt_size 12 k.toNat (by omega)
  rw [lim_of (by unfold LIM; omega), cond_true]
  rfl
end Go.PI.G
set_option maxRecDepth 10000
namespace Go.PI.G
open Go Go.PI Go.Proofs

theorem toVal_eq (a : Int × Int × ByteArray) (h : msr (.pair (.int .i64) (.pair (.int .i64) .str)) a ≤ 1048576) (k : qV → Res) : laws_toVal a k = k a := by
  unfold laws_toVal
  rfl

theorem szVal_eq (a : Int × Int × ByteArray) (left : Int) (h0 : 0 ≤ left) (h1 : left ≤ 1048576) (hw : Wf (.pair (.int .i64) (.pair (.int .i64) .str)) a) (k : Int → Res) : laws_szVal a left k = k (szR left (msr (.pair (.int .i64) (.pair (.int .i64) .str)) a)) := by
  have hm : msr (.pair (.int .i64) (.pair (.int .i64) .str)) a = ByteArray.size a.2.2 + 0 := by simp only [msr]; omega
  rw [hm]
  unfold laws_szVal
  have hx0 : ByteArray.size a.2.2 ≤ maxLen := hw.2.2
  unfold maxLen at hx0
  rw [wi64_in (by unfold nI; omega)]
  by_cases hb0 : ((ByteArray.size a.2.2 : Nat) : Int) ≤ left
  rotate_left
  · rw [szR_stop hb0, dec_lt_t (by unfold nI; omega), cond_true]
  rw [dec_lt_f (by unfold nI; omega), cond_false, szR_step hb0, show left - nI (ByteArray.size a.2.2) = left - ((ByteArray.size a.2.2 : Nat) : Int) from rfl]
  exact sz_end (by omega)

theorem eqVal_eq (a : Int × Int × ByteArray) (h : msr (.pair (.int .i64) (.pair (.int .i64) .str)) a ≤ 1048576) (k : Bool → Res) : laws_eqVal a a k = k true := by
  unfold laws_eqVal
  simp only [bne_f, sNe_self, beq_self_eq_true, cond_false, Bool.not_true]
end Go.PI.G
namespace Go.PI.G
open Go Go.PI Go.Proofs

theorem toCol_eq (a : ByteArray × Int × Bool × Bool × Int × Int × ByteArray) (h : msr (.pair .str (.pair (.int .i64) (.pair .bool (.pair .bool (.pair (.int .i64) (.pair (.int .i64) .str)))))) a ≤ 1048576) (k : qC → Res) : laws_toCol a k = k a := by
  have h4 : msr (.pair (.int .i64) (.pair (.int .i64) .str)) a.2.2.2.2 ≤ 1048576 := by
    have : msr (.pair (.int .i64) (.pair (.int .i64) .str)) a.2.2.2.2 ≤ msr (.pair .str (.pair (.int .i64) (.pair .bool (.pair .bool (.pair (.int .i64) (.pair (.int .i64) .str)))))) a := by first | exact Nat.le_refl _ | (simp only [msr]; omega)
    omega
  unfold laws_toCol
  simp only [toVal_eq _ h4]

theorem szCol_eq (a : ByteArray × Int × Bool × Bool × Int × Int × ByteArray) (left : Int) (h0 : 0 ≤ left) (h1 : left ≤ 1048576) (hw : Wf (.pair .str (.pair (.int .i64) (.pair .bool (.pair .bool (.pair (.int .i64) (.pair (.int .i64) .str)))))) a) (k : Int → Res) : laws_szCol a left k = k (szR left (msr (.pair .str (.pair (.int .i64) (.pair .bool (.pair .bool (.pair (.int .i64) (.pair (.int .i64) .str)))))) a)) := by
  have hm : msr (.pair .str (.pair (.int .i64) (.pair .bool (.pair .bool (.pair (.int .i64) (.pair (.int .i64) .str)))))) a = ByteArray.size a.1 + (msr (.pair (.int .i64) (.pair (.int .i64) .str)) a.2.2.2.2 + 0) := by simp only [msr]; omega
  rw [hm]
  unfold laws_szCol
  have hx0 : ByteArray.size a.1 ≤ maxLen := hw.1
  unfold maxLen at hx0
  rw [wi64_in (by unfold nI; omega)]
  by_cases hb0 : ((ByteArray.size a.1 : Nat) : Int) ≤ left
  rotate_left
  · rw [szR_stop hb0, dec_lt_t (by unfold nI; omega), cond_true]
  rw [dec_lt_f (by unfold nI; omega), cond_false, szR_step hb0, show left - nI (ByteArray.size a.1) = left - ((ByteArray.size a.1 : Nat) : Int) from rfl]
  rw [szVal_eq _ _ (by omega) (by omega) hw.2.2.2.2]
  by_cases hb1 : ((msr (.pair (.int .i64) (.pair (.int .i64) .str)) a.2.2.2.2 : Nat) : Int) ≤ left - (ByteArray.size a.1 : Nat)
  rotate_left
  · rw [szR_neg hb1, szR_stop hb1, dec_lt_t (by omega), cond_true]
  rw [szR_pos hb1, szR_step hb1, dec_lt_f (by omega), cond_false]
  exact sz_end (by omega)

theorem eqCol_eq (a : ByteArray × Int × Bool × Bool × Int × Int × ByteArray) (h : msr (.pair .str (.pair (.int .i64) (.pair .bool (.pair .bool (.pair (.int .i64) (.pair (.int .i64) .str)))))) a ≤ 1048576) (k : Bool → Res) : laws_eqCol a a k = k true := by
  have h4 : msr (.pair (.int .i64) (.pair (.int .i64) .str)) a.2.2.2.2 ≤ 1048576 := by
    have : msr (.pair (.int .i64) (.pair (.int .i64) .str)) a.2.2.2.2 ≤ msr (.pair .str (.pair (.int .i64) (.pair .bool (.pair .bool (.pair (.int .i64) (.pair (.int .i64) .str)))))) a := by first | exact Nat.le_refl _ | (simp only [msr]; omega)
    omega
  unfold laws_eqCol
  simp only [bne_f, sNe_self, beq_self_eq_true, cond_false, Bool.not_true, eqVal_eq _ h4]
end Go.PI.G
