/-
  Printed texts and plain laws. No conditions.
-/
import Derived.Test.YtcapkiofiipamaaGreatU3c
import Derived.Test.YtcapkiofiipamaaGreatU3i
import Derived.Test.YtcapkiofiipamaaGreatU3d
import Derived.Test.YtcapkiofiipamaaGreatU3e
set_option linter.unusedVariables false
set_option linter.unusedSimpArgs false
namespace Go.PI.G
open Go Go.PI Go.Proofs

/-- Is there one that is bad, where the earlier ones are known to be good? -/
theorem anyP_loop {α V K : Type} (l : List α) (st : Int → V) (bad : Nat → α → Bool) (p : Nat → Prop) {step : V → (V → Res) → K → Res} (q : K) (fin ex : Res) (hN : l.length ≤ LIM) (h0 : p 0)
    (hp : ∀ (i : Nat), (hi : i < l.length) → p i → bad i l[i] = false → p (i + 1))
    (hs : ∀ (i : Nat) rec, (hi : i < l.length) → p i → step (st i) rec q = bif bad i l[i] then ex else rec (st ((i : Int) + 1))) (he : ∀ rec, step (st (l.length : Int)) rec q = fin) :
    iter step FUEL (st 0) q = bif anyI bad 0 l then ex else fin := by
  have h := walk_loop l (fun i (_ : Unit) => st i) (fun i _ x => if bad i x then .error () else (.ok () : Except Unit Unit)) (fun i _ => p i) q (fun _ => fin) (fun _ => ex) () hN h0 (fun i a a' hi hpi hf => by
      refine hp i hi hpi ?_
      cases hb : bad i l[i] with
      | false => rfl
      | true => rw [hb] at hf; cases hf)
    (fun i a rec hi hpi => by
      rw [hs i rec hi hpi]
      cases bad i l[i] <;> rfl) (fun a rec _ => he rec)
  rw [h]
  have : ∀ (l : List α) (i : Nat), walkL (fun i _ x => if bad i x then .error () else (.ok () : Except Unit Unit)) i l () = bif anyI bad i l then .error () else .ok () := by
    intro l
    induction l with
    | nil => intro i; rfl
    | cons x l ih =>
      intro i
      simp only [walkL, anyI]
      cases bad i x with
      | true => rfl
      | false => exact ih _
  rw [this]
  cases anyI bad 0 l <;> rfl

/-! ### rows -/
theorem specFits_eq (c : C) (hc : colB c = true) (v : V) (k : Bool → Res) : spec_l03Fits c v k = k (fits c v) := by
  have h1 := colB_ty hc
  unfold spec_l03Fits fits
  rw [specVal_eq, specVal_eq]
  cases h0 : v.1 == 0
  · cases valB v
    · rfl
    · rw [cond_false, cond_true, Bool.false_and, Bool.or_false, Bool.true_and]
  · have h2 : (v.1 == c.2.1) = false := by
      rw [beq_iff_eq] at h0
      simp; omega
    rw [h2, Bool.true_and, Bool.false_or]
    cases valB v <;> rfl
theorem implFits_eq (c : C) (v : V) (k : Bool → Res) : impl_stands c v k = k (fits c v) := by
  unfold impl_stands fits
  rw [implVal_eq]
  cases valB v
  · rfl
  · cases v.1 == c.2.1
    · cases v.1 == 0 <;> rfl
    · rfl
theorem specRow_eq (t : T) (h : msr yT t ≤ 1048576) (r : List V) (k : Bool → Res) : spec_RowOk t r k = k (tabB t && rowB t.2.1 r) := by
  obtain ⟨m1, m2, m3, m4, m5⟩ := msr_T h
  unfold spec_RowOk
  rw [specTab_eq t h]
  cases ht : tabB t
  · rfl
  · rw [Bool.not_true, cond_false, Bool.true_and]
    unfold rowB
    by_cases hl : r.length = t.2.1.length
    · have hb : (nI r.length != nI t.2.1.length) = false := by rw [hl, bne_f]
      rw [hb, cond_false, decide_eq_true hl, Bool.true_and]
      unfold spec_RowOk_l0
      have := anyI_loop t.2.1 (fun i => i) (fun i c => !fits c (nth zV r (i : Int))) (step := spec_RowOk_l0_s t.2.1 (nI t.2.1.length) r) ((fun (_ : Unit) => k true), (fun (_ : Unit) => k false)) (k true) (k false) (by unfold LIM; omega) (fun i rec hi => by
        show spec_RowOk_l0_r _ _ r _ _ _ _ = _
        unfold spec_RowOk_l0_r
        rw [nI_lt hi, cond_true, inb_nat hi, cond_true, inb_nat (hl ▸ hi), cond_true, nth_nat _ _ _ hi, specFits_eq _ (colsB_get (tabB_parts ht).2.2.2.2.1 i hi), wi64_in (n := (i : Int) + 1) (by omega)]) (fun rec => by
        show spec_RowOk_l0_r _ _ r _ _ _ _ = _
        unfold spec_RowOk_l0_r
        rw [nI_ge, cond_false])
      refine this.trans ?_
      cases anyI (fun i c => !fits c (nth zV r (i : Int))) 0 t.2.1 <;> rfl
    · have hb : (nI r.length != nI t.2.1.length) = true := by unfold nI; simp; omega
      rw [hb, cond_true, decide_eq_false hl, Bool.false_and]
theorem implRow_eq (t : T) (h : msr yT t ≤ 1048576) (r : List V) (k : Bool → Res) : impl_rowOk t r k = k (rowB t.2.1 r) := by
  obtain ⟨m1, m2, m3, m4, m5⟩ := msr_T h
  unfold impl_rowOk rowB
  by_cases hl : r.length = t.2.1.length
  · have hb : (nI r.length != nI t.2.1.length) = false := by rw [hl, bne_f]
    rw [hb, cond_false, decide_eq_true hl, Bool.true_and]
    unfold impl_rowOk_l0
    have := anyI_loop t.2.1 (fun i => i) (fun i c => !fits c (nth zV r (i : Int))) (step := impl_rowOk_l0_s r (nI r.length) t) ((fun (_ : Unit) => k true), (fun (_ : Unit) => k false)) (k true) (k false) (by unfold LIM; omega) (fun i rec hi => by
      show impl_rowOk_l0_r _ _ t _ _ _ _ = _
      unfold impl_rowOk_l0_r
      rw [hl, nI_lt hi, cond_true, inb_nat hi, cond_true, cond_true, nth_nat zC _ _ hi, implFits_eq, wi64_in (n := (i : Int) + 1) (by omega)]) (fun rec => by
      show impl_rowOk_l0_r _ _ t _ _ _ _ = _
      unfold impl_rowOk_l0_r
      rw [hl, nI_ge, cond_false])
    refine this.trans ?_
    cases anyI (fun i c => !fits c (nth zV r (i : Int))) 0 t.2.1 <;> rfl
  · have hb : (nI r.length != nI t.2.1.length) = true := by unfold nI; simp; omega
    rw [hb, cond_true, decide_eq_false hl, Bool.false_and]
theorem rowB_len {l : List C} {r : List V} (h : rowB l r = true) : r.length = l.length := by
  unfold rowB at h
  rw [Bool.and_eq_true, decide_eq_true_eq] at h
  exact h.1

/-! ### keys -/
theorem flat_one {α β : Type} (f : α → β) : (l : List α) → l.flatMap (fun x => [f x]) = l.map f
  | [] => rfl
  | x :: l => by rw [List.flatMap_cons, flat_one f l]; rfl
theorem keyV_len (t : T) (r : List V) : (keyV t r).length = t.2.2.length := by unfold keyV; simp
theorem specKey_eq (t : T) (h : msr yT t ≤ 1048576) (ht : tabB t = true) (r : List V) (hr : r.length = t.2.1.length) (k : List V → Res) : spec_l03Key t r k = k (keyV t r) := by
  obtain ⟨m1, m2, m3, m4, m5⟩ := msr_T h
  unfold spec_l03Key spec_l03Key_l0
  have hk := keysUp_range t.2.2 (-1) (by omega) (tabB_parts ht).2.2.2.2.2
  have := flat_loop t.2.2 (fun i out => (out, i)) (fun n => [nth zV r (colAt t.2.1 n)]) 1048576 [] (step := spec_l03Key_l0_s t.2.2 (nI t.2.2.length) t r) (fun out => k out) (fun out => k out) (by unfold LIM; omega) (fun i hi _ => by
    rw [flat_one, List.nil_append, List.length_map, List.length_take]; omega) (by simp) (fun i out rec hi ho _ => by
    show spec_l03Key_l0_r _ _ t r _ _ _ _ = _
    unfold spec_l03Key_l0_r
    have hk' := hk _ (List.getElem_mem hi)
    have hlo : out.length = i := by
      rw [ho, flat_one, List.nil_append, List.length_map, List.length_take]; omega
    dsimp only
    rw [nI_lt hi, cond_true, inb_nat hi, cond_true, nth_nat _ _ _ hi, specAt_eq t _ (by unfold LIM; omega), inb_of hk'.1 (by omega), cond_true, lim_of (by unfold LIM; omega), cond_true, wi64_in (n := (i : Int) + 1) (by omega)]) (fun out rec => by
    show spec_l03Key_l0_r _ _ t r _ _ _ _ = _
    unfold spec_l03Key_l0_r
    dsimp only
    rw [nI_ge, cond_false])
  refine this.trans ?_
  rw [flat_one, List.nil_append]
  rfl
theorem specKeyLess_eq (a b : List V) (ha : a.length ≤ LIM) (k : Bool → Res) : spec_KeyLess a b k = k (klt a b) := by
  unfold spec_KeyLess spec_KeyLess_l0
  unfold LIM at ha
  have key : ∀ (d i n : Nat), i + d = a.length → d < n → i ≤ b.length → iter (spec_KeyLess_l0_s a b) n (i : Int) ((fun (_ : Unit) => k (decide (nI a.length < nI b.length))), (fun (t : Bool) => k t)) = k (klt (a.drop i) (b.drop i)) := by
    intro d
    induction d with
    | zero =>
      intro i n hi hn hb
      obtain ⟨n, rfl⟩ : ∃ m, n = m + 1 := ⟨n - 1, by omega⟩
      have : i = a.length := by omega
      subst this
      show spec_KeyLess_l0_r a b _ _ _ _ = _
      unfold spec_KeyLess_l0_r
      rw [nI_ge, cond_false, List.drop_length]
      show k (decide (nI a.length < nI b.length)) = _
      by_cases h1 : a.length < b.length
      · rw [List.drop_eq_getElem_cons h1, decide_eq_true (show nI a.length < nI b.length by unfold nI; omega)]
        rfl
      · rw [List.drop_of_length_le (by omega), decide_eq_false (show ¬ nI a.length < nI b.length by unfold nI; omega)]
        rfl
    | succ d ih =>
      intro i n hi hn hb
      obtain ⟨n, rfl⟩ : ∃ m, n = m + 1 := ⟨n - 1, by omega⟩
      have hlt : i < a.length := by omega
      show spec_KeyLess_l0_r a b _ _ _ _ = _
      unfold spec_KeyLess_l0_r
      rw [nI_lt hlt, cond_true, List.drop_eq_getElem_cons hlt]
      by_cases h1 : i < b.length
      · rw [nI_lt h1, cond_true, inb_nat hlt, cond_true, inb_nat h1, cond_true, List.drop_eq_getElem_cons h1, nth_nat _ _ _ hlt, nth_nat _ _ _ h1, cond_true, cond_true, specLess_eq, wi64_in (n := (i : Int) + 1) (by omega)]
        show (bif !veq a[i] b[i] then _ else _) = k (bif veq a[i] b[i] then _ else _)
        cases veq a[i] b[i]
        · rfl
        · exact ih (i + 1) n (by omega) (by omega) (by omega)
      · have : i = b.length := by omega
        subst this
        rw [nI_ge, cond_false, List.drop_length]
        show k (decide (nI a.length < nI b.length)) = _
        rw [decide_eq_false (show ¬ nI a.length < nI b.length by unfold nI; omega)]
        rfl
  exact key a.length 0 FUEL (by omega) (FUEL_lt (by omega)) (by omega)
theorem implKey_eq (t : T) (h : msr yT t ≤ 1048576) (ht : tabB t = true) (r : List V) (hr : r.length = t.2.1.length) (k : List V → Res) : impl_keyOf t r k = k (keyV t r) := by
  obtain ⟨m1, m2, m3, m4, m5⟩ := msr_T h
  unfold impl_keyOf impl_keyOf_l0
  have hk := keysUp_range t.2.2 (-1) (by omega) (tabB_parts ht).2.2.2.2.2
  have := flat_loop t.2.2 (fun i out => (out, i)) (fun n => [nth zV r (colAt t.2.1 n)]) 1048576 [] (step := impl_keyOf_l0_s t.2.2 (nI t.2.2.length) t r) (fun out => k out) (fun out => k out) (by unfold LIM; omega) (fun i hi _ => by
    rw [flat_one, List.nil_append, List.length_map, List.length_take]; omega) (by simp) (fun i out rec hi ho _ => by
    show impl_keyOf_l0_r _ _ t r _ _ _ _ = _
    unfold impl_keyOf_l0_r
    have hk' := hk _ (List.getElem_mem hi)
    have hlo : out.length = i := by
      rw [ho, flat_one, List.nil_append, List.length_map, List.length_take]; omega
    dsimp only
    rw [nI_lt hi, cond_true, inb_nat hi, cond_true, nth_nat _ _ _ hi, implAt_eq t _ (by unfold LIM; omega), inb_of hk'.1 (by omega), cond_true, lim_of (by unfold LIM; omega), cond_true, wi64_in (n := (i : Int) + 1) (by omega)]) (fun out rec => by
    show impl_keyOf_l0_r _ _ t r _ _ _ _ = _
    unfold impl_keyOf_l0_r
    dsimp only
    rw [nI_ge, cond_false])
  refine this.trans ?_
  rw [flat_one, List.nil_append]
  rfl
theorem implKeyLess_eq (a b : List V) (ha : a.length ≤ LIM) (k : Bool → Res) : impl_KeyLess a b k = k (klt a b) := by
  unfold impl_KeyLess impl_KeyLess_l0
  unfold LIM at ha
  have key : ∀ (d i n : Nat), i + d = a.length → d < n → i ≤ b.length → iter (impl_KeyLess_l0_s a b) n (i : Int) ((fun (_ : Unit) => k (decide (nI a.length < nI b.length))), (fun (t : Bool) => k t)) = k (klt (a.drop i) (b.drop i)) := by
    intro d
    induction d with
    | zero =>
      intro i n hi hn hb
      obtain ⟨n, rfl⟩ : ∃ m, n = m + 1 := ⟨n - 1, by omega⟩
      have : i = a.length := by omega
      subst this
      show impl_KeyLess_l0_r a b _ _ _ _ = _
      unfold impl_KeyLess_l0_r
      rw [nI_ge, cond_false, List.drop_length]
      show k (decide (nI a.length < nI b.length)) = _
      by_cases h1 : a.length < b.length
      · rw [List.drop_eq_getElem_cons h1, decide_eq_true (show nI a.length < nI b.length by unfold nI; omega)]
        rfl
      · rw [List.drop_of_length_le (by omega), decide_eq_false (show ¬ nI a.length < nI b.length by unfold nI; omega)]
        rfl
    | succ d ih =>
      intro i n hi hn hb
      obtain ⟨n, rfl⟩ : ∃ m, n = m + 1 := ⟨n - 1, by omega⟩
      have hlt : i < a.length := by omega
      show impl_KeyLess_l0_r a b _ _ _ _ = _
      unfold impl_KeyLess_l0_r
      rw [nI_lt hlt, cond_true, List.drop_eq_getElem_cons hlt]
      by_cases h1 : i < b.length
      · rw [nI_lt h1, cond_true, inb_nat hlt, cond_true, inb_nat h1, cond_true, List.drop_eq_getElem_cons h1, nth_nat _ _ _ hlt, nth_nat _ _ _ h1, cond_true, cond_true, implLess_eq, wi64_in (n := (i : Int) + 1) (by omega)]
        show (bif !veq a[i] b[i] then _ else _) = k (bif veq a[i] b[i] then _ else _)
        cases veq a[i] b[i]
        · rfl
        · exact ih (i + 1) n (by omega) (by omega) (by omega)
      · have : i = b.length := by omega
        subst this
        rw [nI_ge, cond_false, List.drop_length]
        show k (decide (nI a.length < nI b.length)) = _
        rw [decide_eq_false (show ¬ nI a.length < nI b.length by unfold nI; omega)]
        rfl
  exact key a.length 0 FUEL (by omega) (FUEL_lt (by omega)) (by omega)

/-! ### rows of a table -/
theorem specRows_eq (t : T) (h : msr yT t ≤ 1048576) (l : List (List V)) (k : Bool → Res) : spec_RowsOk t l k = k (rowsB t l) := by
  obtain ⟨m1, m2, m3, m4, m5⟩ := msr_T h
  unfold spec_RowsOk rowsB
  rw [specTab_eq t h]
  cases ht : tabB t
  · rfl
  · rw [Bool.not_true, cond_false, Bool.true_and]
    by_cases h6 : l.length ≤ 60
    · rw [decide_eq_false (show ¬ nI l.length > 60 by unfold nI; omega), cond_false, decide_eq_true h6, Bool.true_and]
      unfold spec_RowsOk_l0
      have := anyP_loop l (fun i => i) (fun i r => !rowB t.2.1 r || (decide (0 < i) && !klt (keyV t (nth [] l ((i : Int) - 1))) (keyV t r))) (fun i => ∀ (j : Nat) (hj : j < l.length), j < i → rowB t.2.1 l[j] = true) (step := spec_RowsOk_l0_s l l (nI l.length) t) ((fun (_ : Unit) => k true), (fun (_ : Unit) => k false)) (k true) (k false) (by unfold LIM; omega) (fun j _ hj => absurd hj (by omega)) (fun i hi hp hb j hj hji => by
        rw [Bool.or_eq_false_iff, Bool.not_eq_false'] at hb
        by_cases hji' : j < i
        · exact hp j hj hji'
        · have : j = i := by omega
          subst this
          exact hb.1) (fun i rec hi hp => by
        show spec_RowsOk_l0_r l _ _ t _ _ _ _ = _
        unfold spec_RowsOk_l0_r
        rw [nI_lt hi, cond_true, inb_nat hi, cond_true, nth_nat _ _ _ hi, specRow_eq t h]
        rw [ht, Bool.true_and]
        cases hr : rowB t.2.1 l[i]
        · rfl
        · rw [Bool.not_true, cond_false, Bool.false_or, wi64_in (n := (i : Int) + 1) (by omega)]
          by_cases h0 : 0 < i
          · have hi' : i - 1 < l.length := by omega
            have he : ((i : Int) - 1) = ((i - 1 : Nat) : Int) := by omega
            rw [decide_eq_true (show (i : Int) > 0 by omega), cond_true, decide_eq_true h0, Bool.true_and, wi64_in (n := (i : Int) - 1) (by omega), he, inb_nat hi', cond_true, nth_nat _ _ _ hi', specKey_eq t h ht _ (rowB_len (hp _ hi' (by omega))), specKey_eq t h ht _ (rowB_len hr), specKeyLess_eq _ _ (by rw [keyV_len]; unfold LIM; omega)]
          · rw [decide_eq_false (show ¬ (i : Int) > 0 by omega), cond_false, decide_eq_false h0, Bool.false_and, cond_false]) (fun rec => by
        show spec_RowsOk_l0_r l _ _ t _ _ _ _ = _
        unfold spec_RowsOk_l0_r
        rw [nI_ge, cond_false])
      refine this.trans ?_
      cases anyI (fun i r => !rowB t.2.1 r || (decide (0 < i) && !klt (keyV t (nth [] l ((i : Int) - 1))) (keyV t r))) 0 l <;> rfl
    · rw [decide_eq_true (show nI l.length > 60 by unfold nI; omega), cond_true, decide_eq_false h6, Bool.false_and]
theorem implRows_eq (t : T) (h : msr yT t ≤ 1048576) (l : List (List V)) (k : Bool → Res) : impl_RowsOk t l k = k (rowsB t l) := by
  obtain ⟨m1, m2, m3, m4, m5⟩ := msr_T h
  unfold impl_RowsOk rowsB
  rw [implTab_eq t h]
  cases ht : tabB t
  · rfl
  · rw [Bool.not_true, cond_false, Bool.true_and]
    by_cases h6 : l.length ≤ 60
    · rw [decide_eq_false (show ¬ nI l.length > 60 by unfold nI; omega), cond_false, decide_eq_true h6, Bool.true_and]
      unfold impl_RowsOk_l0
      have := anyP_loop l (fun i => i) (fun i r => !rowB t.2.1 r || (decide (0 < i) && !klt (keyV t (nth [] l ((i : Int) - 1))) (keyV t r))) (fun i => ∀ (j : Nat) (hj : j < l.length), j < i → rowB t.2.1 l[j] = true) (step := impl_RowsOk_l0_s l l (nI l.length) t) ((fun (_ : Unit) => k true), (fun (_ : Unit) => k false)) (k true) (k false) (by unfold LIM; omega) (fun j _ hj => absurd hj (by omega)) (fun i hi hp hb j hj hji => by
        rw [Bool.or_eq_false_iff, Bool.not_eq_false'] at hb
        by_cases hji' : j < i
        · exact hp j hj hji'
        · have : j = i := by omega
          subst this
          exact hb.1) (fun i rec hi hp => by
        show impl_RowsOk_l0_r l _ _ t _ _ _ _ = _
        unfold impl_RowsOk_l0_r
        rw [nI_lt hi, cond_true, inb_nat hi, cond_true, nth_nat _ _ _ hi, implRow_eq t h]
        cases hr : rowB t.2.1 l[i]
        · rfl
        · rw [Bool.not_true, cond_false, Bool.false_or, wi64_in (n := (i : Int) + 1) (by omega)]
          by_cases h0 : 0 < i
          · have hi' : i - 1 < l.length := by omega
            have he : ((i : Int) - 1) = ((i - 1 : Nat) : Int) := by omega
            rw [decide_eq_true (show (i : Int) > 0 by omega), cond_true, decide_eq_true h0, Bool.true_and, wi64_in (n := (i : Int) - 1) (by omega), he, inb_nat hi', cond_true, nth_nat _ _ _ hi', implKey_eq t h ht _ (rowB_len (hp _ hi' (by omega))), implKey_eq t h ht _ (rowB_len hr), implKeyLess_eq _ _ (by rw [keyV_len]; unfold LIM; omega)]
          · rw [decide_eq_false (show ¬ (i : Int) > 0 by omega), cond_false, decide_eq_false h0, Bool.false_and, cond_false]) (fun rec => by
        show impl_RowsOk_l0_r l _ _ t _ _ _ _ = _
        unfold impl_RowsOk_l0_r
        rw [nI_ge, cond_false])
      refine this.trans ?_
      cases anyI (fun i r => !rowB t.2.1 r || (decide (0 < i) && !klt (keyV t (nth [] l ((i : Int) - 1))) (keyV t r))) 0 l <;> rfl
    · rw [decide_eq_true (show nI l.length > 60 by unfold nI; omega), cond_true, decide_eq_false h6, Bool.false_and]
theorem rowsB_parts {t : T} {l : List (List V)} (h : rowsB t l = true) : tabB t = true ∧ l.length ≤ 60 ∧ ∀ r ∈ l, rowB t.2.1 r = true := by
  unfold rowsB at h
  simp only [Bool.and_eq_true, decide_eq_true_eq, Bool.not_eq_true'] at h
  refine ⟨h.1, h.2.1, fun r hr => ?_⟩
  obtain ⟨i, hi, rfl⟩ := List.getElem_of_mem hr
  have := anyI_false l 0 h.2.2 i hi
  simp only [Bool.or_eq_false_iff, Bool.not_eq_false'] at this
  exact this.1
end Go.PI.G
namespace Go.PI.G
open Go Go.PI Go.Proofs

/-! ### catalogs -/
theorem msr_cat {c : List T} (h : msr (.slice yT) c ≤ 1048576) : c.length ≤ 1048576 ∧ ∀ t ∈ c, msr yT t ≤ 1048576 := ⟨msr_len h, fun t ht => msr_mem h ht⟩
theorem specCat_loop (c : List T) (h : msr (.slice yT) c ≤ 1048576) (a b : Unit → Res) : spec_CatOk_l0 c (nI c.length) c FUEL 0 a b = bif anyI (fun i t => !tabB t || (decide (0 < i) && sGe (nth zT c ((i : Int) - 1)).1 t.1)) 0 c then b () else a () := by
  obtain ⟨m1, m2⟩ := msr_cat h
  unfold spec_CatOk_l0
  exact anyI_loop c (fun i => i) (fun i t => !tabB t || (decide (0 < i) && sGe (nth zT c ((i : Int) - 1)).1 t.1)) (step := spec_CatOk_l0_s c (nI c.length) c) (a, b) (a ()) (b ()) (by unfold LIM; omega) (fun i rec hi => by
    show spec_CatOk_l0_r _ _ c _ _ _ _ = _
    unfold spec_CatOk_l0_r
    rw [nI_lt hi, cond_true, inb_nat hi, cond_true, nth_nat _ _ _ hi, specTab_eq _ (m2 _ (List.getElem_mem hi)), wi64_in (n := (i : Int) + 1) (by omega), cat_step c i hi (by unfold LIM; omega)]
    cases tabB c[i]
    · rfl
    · cases (decide (0 < i) && sGe (nth zT c ((i : Int) - 1)).1 c[i].1) <;> rfl) (fun rec => by
    show spec_CatOk_l0_r _ _ c _ _ _ _ = _
    unfold spec_CatOk_l0_r
    rw [nI_ge, cond_false])
theorem implCat_loop (c : List T) (h : msr (.slice yT) c ≤ 1048576) (a b : Unit → Res) : impl_CatOk_l0 c (nI c.length) c FUEL 0 a b = bif anyI (fun i t => !tabB t || (decide (0 < i) && sGe (nth zT c ((i : Int) - 1)).1 t.1)) 0 c then b () else a () := by
  obtain ⟨m1, m2⟩ := msr_cat h
  unfold impl_CatOk_l0
  exact anyI_loop c (fun i => i) (fun i t => !tabB t || (decide (0 < i) && sGe (nth zT c ((i : Int) - 1)).1 t.1)) (step := impl_CatOk_l0_s c (nI c.length) c) (a, b) (a ()) (b ()) (by unfold LIM; omega) (fun i rec hi => by
    show impl_CatOk_l0_r _ _ c _ _ _ _ = _
    unfold impl_CatOk_l0_r
    rw [nI_lt hi, cond_true, inb_nat hi, cond_true, nth_nat _ _ _ hi, implTab_eq _ (m2 _ (List.getElem_mem hi)), wi64_in (n := (i : Int) + 1) (by omega), cat_step c i hi (by unfold LIM; omega)]
    cases tabB c[i]
    · rfl
    · cases (decide (0 < i) && sGe (nth zT c ((i : Int) - 1)).1 c[i].1) <;> rfl) (fun rec => by
    show impl_CatOk_l0_r _ _ c _ _ _ _ = _
    unfold impl_CatOk_l0_r
    rw [nI_ge, cond_false])
theorem specCat_eq (c : List T) (h : msr (.slice yT) c ≤ 1048576) (k : Bool → Res) : spec_CatOk c k = k (catB c) := by
  unfold spec_CatOk catB
  rw [specCat_loop c h]
  by_cases h6 : c.length ≤ 6
  · rw [decide_eq_false (show ¬ nI c.length > 6 by unfold nI; omega), cond_false, decide_eq_true h6, Bool.true_and]
    cases anyI (fun i t => !tabB t || (decide (0 < i) && sGe (nth zT c ((i : Int) - 1)).1 t.1)) 0 c <;> rfl
  · rw [decide_eq_true (show nI c.length > 6 by unfold nI; omega), cond_true, decide_eq_false h6, Bool.false_and]
theorem implCat_eq (c : List T) (h : msr (.slice yT) c ≤ 1048576) (k : Bool → Res) : impl_CatOk c k = k (catB c) := by
  unfold impl_CatOk catB
  rw [implCat_loop c h]
  have : decide (nI c.length ≤ 6) = decide (c.length ≤ 6) := decide_eq_decide.2 (by unfold nI; omega)
  rw [this]
  cases anyI (fun i t => !tabB t || (decide (0 < i) && sGe (nth zT c ((i : Int) - 1)).1 t.1)) 0 c
  · rw [Bool.not_false, Bool.and_true]; rfl
  · rw [Bool.not_true, Bool.and_false]; rfl
end Go.PI.G
namespace Go.PI.G
open Go Go.PI Go.Proofs

theorem msr_DB {d : DB} (h : msr yDB d ≤ 1048576) : msr (.slice yT) d.1 ≤ 1048576 ∧ d.1.length ≤ 1048576 ∧ d.2.length ≤ 1048576 ∧ (∀ t ∈ d.1, msr yT t ≤ 1048576) ∧ ∀ l ∈ d.2, l.length ≤ 1048576 := by
  have h1 : msr yDB d = msr (.slice yT) d.1 + msr (.slice (.slice (.slice yV))) d.2 := rfl
  have h2 : msr (.slice yT) d.1 ≤ 1048576 := by omega
  have h3 : msr (.slice (.slice (.slice yV))) d.2 ≤ 1048576 := by omega
  exact ⟨h2, msr_len h2, msr_len h3, fun t ht => msr_mem h2 ht, fun l hl => msr_len (msr_mem h3 hl)⟩
theorem specDb_eq (d : DB) (h : msr yDB d ≤ 1048576) (k : Bool → Res) : spec_DbOk d k = k (dbB d) := by
  obtain ⟨m1, m2, m3, m4, m5⟩ := msr_DB h
  unfold spec_DbOk dbB
  rw [specCat_eq _ m1]
  cases catB d.1
  · rfl
  · rw [Bool.not_true, cond_false, Bool.true_and]
    by_cases hl : d.2.length = d.1.length
    · have hb : (nI d.2.length != nI d.1.length) = false := by rw [hl, bne_f]
      rw [hb, cond_false, decide_eq_true hl, Bool.true_and]
      unfold spec_DbOk_l0
      have := anyI_loop d.1 (fun i => i) (fun i t => !rowsB t (nth [] d.2 (i : Int))) (step := spec_DbOk_l0_s d.1 (nI d.1.length) d) ((fun (_ : Unit) => k true), (fun (_ : Unit) => k false)) (k true) (k false) (by unfold LIM; omega) (fun i rec hi => by
        show spec_DbOk_l0_r _ _ d _ _ _ _ = _
        unfold spec_DbOk_l0_r
        rw [nI_lt hi, cond_true, inb_nat hi, cond_true, inb_nat (hl ▸ hi), cond_true, nth_nat _ _ _ hi, specRows_eq _ (m4 _ (List.getElem_mem hi)), wi64_in (n := (i : Int) + 1) (by omega)]) (fun rec => by
        show spec_DbOk_l0_r _ _ d _ _ _ _ = _
        unfold spec_DbOk_l0_r
        rw [nI_ge, cond_false])
      refine this.trans ?_
      cases anyI (fun i t => !rowsB t (nth [] d.2 (i : Int))) 0 d.1 <;> rfl
    · have hb : (nI d.2.length != nI d.1.length) = true := by unfold nI; simp; omega
      rw [hb, cond_true, decide_eq_false hl, Bool.false_and]
theorem implDb_eq (d : DB) (h : msr yDB d ≤ 1048576) (k : Bool → Res) : impl_DbOk d k = k (dbB d) := by
  obtain ⟨m1, m2, m3, m4, m5⟩ := msr_DB h
  unfold impl_DbOk dbB
  rw [implCat_eq _ m1]
  cases catB d.1
  · rfl
  · rw [Bool.not_true, cond_false, Bool.true_and]
    by_cases hl : d.2.length = d.1.length
    · have hb : (nI d.2.length != nI d.1.length) = false := by rw [hl, bne_f]
      rw [hb, cond_false, decide_eq_true hl, Bool.true_and]
      unfold impl_DbOk_l0
      have := anyI_loop d.1 (fun i => i) (fun i t => !rowsB t (nth [] d.2 (i : Int))) (step := impl_DbOk_l0_s d.1 (nI d.1.length) d) ((fun (_ : Unit) => k true), (fun (_ : Unit) => k false)) (k true) (k false) (by unfold LIM; omega) (fun i rec hi => by
        show impl_DbOk_l0_r _ _ d _ _ _ _ = _
        unfold impl_DbOk_l0_r
        rw [nI_lt hi, cond_true, inb_nat hi, cond_true, inb_nat (hl ▸ hi), cond_true, nth_nat _ _ _ hi, implRows_eq _ (m4 _ (List.getElem_mem hi)), wi64_in (n := (i : Int) + 1) (by omega)]) (fun rec => by
        show impl_DbOk_l0_r _ _ d _ _ _ _ = _
        unfold impl_DbOk_l0_r
        rw [nI_ge, cond_false])
      refine this.trans ?_
      cases anyI (fun i t => !rowsB t (nth [] d.2 (i : Int))) 0 d.1 <;> rfl
    · have hb : (nI d.2.length != nI d.1.length) = true := by unfold nI; simp; omega
      rw [hb, cond_true, decide_eq_false hl, Bool.false_and]
theorem dbB_parts {d : DB} (h : dbB d = true) : catB d.1 = true ∧ d.2.length = d.1.length ∧ ∀ (i : Nat) (hi : i < d.1.length) (hi' : i < d.2.length), rowsB d.1[i] d.2[i] = true := by
  unfold dbB at h
  simp only [Bool.and_eq_true, decide_eq_true_eq, Bool.not_eq_true'] at h
  refine ⟨h.1, h.2.1, fun i hi hi' => ?_⟩
  have := anyI_false d.1 0 h.2.2 i hi
  rw [Bool.not_eq_false', show 0 + i = i by omega, nth_nat _ _ _ hi'] at this
  exact this
end Go.PI.G
namespace Go.PI.G
open Go Go.PI Go.Proofs

theorem specTabAt_eq (c : List T) (n : ByteArray) (h : c.length ≤ LIM) (k : Int → Res) : spec_l02At c n k = k (tabAt c n) := by
  unfold spec_l02At spec_l02At_l0
  refine find_loop c (fun i => i) (fun t => sEq t.1 n) (step := spec_l02At_l0_s n c (nI c.length)) _ k h (fun i rec hi => ?_) (fun rec => ?_)
  · show spec_l02At_l0_r n _ _ _ _ _ _ = _
    unfold spec_l02At_l0_r
    unfold LIM at h
    rw [nI_lt hi, cond_true, inb_nat hi, cond_true, nth_nat _ _ _ hi, wi64_in (n := (i : Int) + 1) (by omega)]
  · show spec_l02At_l0_r n _ _ _ _ _ _ = _
    unfold spec_l02At_l0_r
    rw [nI_ge, cond_false]
theorem implTabAt_eq (c : List T) (n : ByteArray) (h : c.length ≤ LIM) (k : Int → Res) : impl_Cat_at c n k = k (tabAt c n) := by
  unfold impl_Cat_at slices_IndexFunc_Table slices_IndexFunc_Table_l0
  refine find_loop c (fun i => i) (fun t => sEq t.1 n) (step := slices_IndexFunc_Table_l0_s c n (nI c.length)) _ k h (fun i rec hi => ?_) (fun rec => ?_)
  · show slices_IndexFunc_Table_l0_r _ n _ _ _ _ _ = _
    unfold slices_IndexFunc_Table_l0_r impl_Cat_at1
    unfold LIM at h
    rw [nI_lt hi, cond_true, inb_nat hi, cond_true, nth_nat _ _ _ hi, wi64_in (n := (i : Int) + 1) (by omega)]
  · show slices_IndexFunc_Table_l0_r _ n _ _ _ _ _ = _
    unfold slices_IndexFunc_Table_l0_r
    rw [nI_ge, cond_false]
theorem tabAt_range (c : List T) (n : ByteArray) : -1 ≤ tabAt c n ∧ tabAt c n < (c.length : Int) := idxI_range _ _
end Go.PI.G
namespace Go.PI.G
open Go Go.PI Go.Proofs

/-! ### numbers as texts -/
def dg (x : Int) : ByteArray := ofBytes [wu8 (wi64 (48 + x))]
theorem dg_size (x : Int) : (dg x).size = 1 := rfl
def digs (n : Nat) : ByteArray := if h : n < 10 then dg n else digs (n / 10) ++ dg ((n % 10 : Nat) : Int)
termination_by n
decreasing_by omega
theorem digs_lo {n : Nat} (h : n < 10) : digs n = dg n := by rw [digs, dif_pos h]
theorem digs_hi {n : Nat} (h : ¬ n < 10) : digs n = digs (n / 10) ++ dg ((n % 10 : Nat) : Int) := by rw [digs, dif_neg h]
theorem digs_size : ∀ (d n : Nat), n < 10 ^ (d + 1) → (digs n).size ≤ d + 1
  | 0, n, h => by rw [digs_lo (by omega), dg_size]; exact Nat.le_refl _
  | d + 1, n, h => by
    by_cases h1 : n < 10
    · rw [digs_lo h1, dg_size]; omega
    · rw [digs_hi h1, ByteArray.size_append, dg_size]
      have : n / 10 < 10 ^ (d + 1) := Nat.div_lt_of_lt_mul (by rw [Nat.pow_succ] at h; omega)
      have := digs_size d (n / 10) this
      omega
theorem digs_size13 {n : Nat} (h : n ≤ 1099511627775) : (digs n).size ≤ 13 := digs_size 12 n (by omega)
def numT (n : Int) : ByteArray := bif numB n then (if n < 0 then z__ ++ digs (-n).toNat else digs n.toNat) else eS
theorem numT_size (n : Int) : (numT n).size ≤ 14 := by
  unfold numT
  by_cases h : -1099511627775 ≤ n ∧ n ≤ 1099511627775
  · have hb : numB n = true := decide_eq_true h
    rw [hb, cond_true]
    split
    · rw [ByteArray.size_append]
      have := digs_size13 (n := (-n).toNat) (by omega)
      have : z__.size = 1 := rfl
      omega
    · have := digs_size13 (n := n.toNat) (by omega)
      omega
  · have hb : numB n = false := decide_eq_false h
    rw [hb, cond_false]
    show (0 : Nat) ≤ 14
    omega
theorem specNum_nat : ∀ (m n : Nat), n < m → n ≤ 1099511627775 → ∀ k, recN (fun _ _ => none) spec_NumText_b m (n : Int) k = k (digs n)
  | 0, n, h, _, k => by omega
  | m + 1, n, h, hn, k => by
    show spec_NumText_b (recN (fun _ _ => none) spec_NumText_b m) (n : Int) k = _
    have ih := specNum_nat m
    generalize recN (fun _ _ => none) spec_NumText_b m = self at ih ⊢
    unfold spec_NumText_b
    have hb : numB (n : Int) = true := decide_eq_true (by omega)
    rw [l01Num_eq, hb, Bool.not_true, cond_false, dec_lt_f (by omega), cond_false]
    by_cases h1 : n < 10
    · rw [dec_lt_t (by omega), cond_true, digs_lo h1]; rfl
    · rw [dec_lt_f (by omega), cond_false, both_self, tdiv_nat, tmod_nat, wi64_of (n := ((n / 10 : Nat) : Int)) (by omega) (by omega), ih (n / 10) (by omega) (by omega), digs_hi h1]
      have h2 := digs_size13 (n := n / 10) (by omega)
      show (bif lim ((digs (n / 10)).size + (dg ((n % 10 : Nat) : Int)).size) then k (digs (n / 10) ++ dg ((n % 10 : Nat) : Int)) else none) = _
      rw [dg_size, lim_of (by unfold LIM; omega), cond_true]
theorem FUEL_succ : ∃ m, FUEL = m + 1 ∧ 1099511627775 < m := by
  have h := FUEL_lt (n := 1099511627777) (by omega)
  exact ⟨FUEL - 1, by omega, by omega⟩
theorem specNum_eq (n : Int) (k : ByteArray → Res) : spec_NumText n k = k (numT n) := by
  unfold spec_NumText
  obtain ⟨m, hm, hm2⟩ := FUEL_succ
  rw [hm]
  show spec_NumText_b (recN (fun _ _ => none) spec_NumText_b m) n k = _
  by_cases h : -1099511627775 ≤ n ∧ n ≤ 1099511627775
  · have hb : numB n = true := decide_eq_true h
    by_cases h0 : n < 0
    · have ih := specNum_nat m
      generalize recN (fun _ _ => none) spec_NumText_b m = self at ih ⊢
      unfold spec_NumText_b numT
      have hsz := digs_size13 (n := (-n).toNat) (by omega)
      have hw : wi64 (0 - n) = (((-n).toNat : Nat) : Int) := by rw [wi64_of (by omega) (by omega)]; omega
      rw [l01Num_eq, hb, Bool.not_true, cond_false, dec_lt_t h0, cond_true, hw, ih _ (by omega) (by omega), lim_of (by unfold LIM; omega), cond_true, cond_true, if_pos h0]
    · have := specNum_nat (m + 1) n.toNat (by omega) (by omega) k
      rw [show ((n.toNat : Nat) : Int) = n by omega] at this
      unfold numT
      rw [hb, cond_true, if_neg h0]
      exact this
  · have hb : numB n = false := decide_eq_false h
    unfold spec_NumText_b numT
    rw [l01Num_eq, hb, Bool.not_false, cond_true, cond_false]

theorem implNum_step (self : Int → (ByteArray → Res) → Res) (n : Int) (s : ByteArray) (rec : Int × ByteArray → Res) (q : Int → ByteArray → Res) : impl_NumText_l0_s self (n, s) rec q = impl_NumText_l0_r self n s (fun n s => rec (n, s)) q := rfl

theorem implNum_loop (self : Int → (ByteArray → Res) → Res) (k : ByteArray → Res) : ∀ (m n d : Nat) (s : ByteArray), n < m → n ≤ 1099511627775 → n < 10 ^ (d + 1) → s.size + d ≤ 1000 →
    iter (impl_NumText_l0_s self) m ((n : Int), s) (fun (n_1 : Int) (s : ByteArray) => bif lim ((ByteArray.size (ofBytes [wu8 (wi64 (48 + n_1))])) + (ByteArray.size s)) then k ((ofBytes [wu8 (wi64 (48 + n_1))]) ++ s) else none) = k (digs n ++ s)
  | 0, n, d, s, h, _, _, _ => by omega
  | m + 1, n, d, s, h, hn, hd, hs => by
    rw [iter_succ, implNum_step]
    unfold impl_NumText_l0_r
    by_cases h1 : n < 10
    · have : decide ((n : Int) > 9) = false := decide_eq_false (by omega)
      rw [this, cond_false, digs_lo h1]
      show (bif lim ((dg (n : Int)).size + s.size) then k (dg (n : Int) ++ s) else none) = _
      rw [dg_size, lim_of (by unfold LIM; omega), cond_true]
    · have : decide ((n : Int) > 9) = true := decide_eq_true (by omega)
      obtain ⟨d, rfl⟩ : ∃ e, d = e + 1 := by
        cases d with
        | zero => exact absurd (by simpa using hd) h1
        | succ d => exact ⟨d, rfl⟩
      rw [this, cond_true, tdiv_nat, tmod_nat, wi64_of (n := ((n / 10 : Nat) : Int)) (by omega) (by omega)]
      show (bif lim ((dg ((n % 10 : Nat) : Int)).size + s.size) then iter (impl_NumText_l0_s self) m (((n / 10 : Nat) : Int), dg ((n % 10 : Nat) : Int) ++ s) _ else none) = _
      rw [dg_size, lim_of (by unfold LIM; omega), cond_true, implNum_loop self k m (n / 10) d _ (by omega) (by omega) (Nat.div_lt_of_lt_mul (by rw [Nat.pow_succ] at hd; omega)) (by rw [ByteArray.size_append, dg_size]; omega), digs_hi h1, ByteArray.append_assoc]

theorem implNum_eq (n : Int) (k : ByteArray → Res) : impl_NumText n k = k (numT n) := by
  unfold impl_NumText
  obtain ⟨m, hm, hm2⟩ := FUEL_succ
  rw [hm]
  obtain ⟨m, rfl⟩ : ∃ e, m = e + 1 := ⟨m - 1, by omega⟩
  have pos : ∀ (self : Int → (ByteArray → Res) → Res) (n : Nat) (k : ByteArray → Res), n ≤ 1099511627775 → impl_NumText_b self (n : Int) k = k (digs n) := by
    intro self n k hn
    unfold impl_NumText_b impl_NumText_l0
    rw [within_eq, decide_eq_true (by omega), Bool.not_true, cond_false, dec_lt_f (by omega), cond_false]
    have := implNum_loop self k FUEL n 12 eS (FUEL_lt (by omega)) hn (by omega) (by show 0 + 12 ≤ 1000; omega)
    rw [eS_app] at this
    exact this
  show impl_NumText_b (recN (fun _ _ => none) impl_NumText_b (m + 1)) n k = _
  have ih : ∀ (n : Nat) (k : ByteArray → Res), n ≤ 1099511627775 → recN (fun _ _ => none) impl_NumText_b (m + 1) (n : Int) k = k (digs n) := fun n k hn => pos (recN (fun _ _ => none) impl_NumText_b m) n k hn
  generalize recN (fun _ _ => none) impl_NumText_b (m + 1) = self at ih ⊢
  by_cases h : -1099511627775 ≤ n ∧ n ≤ 1099511627775
  · have hb : numB n = true := decide_eq_true h
    by_cases h0 : n < 0
    · unfold impl_NumText_b numT
      have hsz := digs_size13 (n := (-n).toNat) (by omega)
      have hw : wi64 (0 - n) = (((-n).toNat : Nat) : Int) := by rw [wi64_of (by omega) (by omega)]; omega
      rw [within_eq, decide_eq_true h, Bool.not_true, cond_false, dec_lt_t h0, cond_true, hw]
      rw [ih _ _ (by omega), lim_of (by unfold LIM; omega), cond_true, hb, cond_true, if_pos h0]
    · have := pos self n.toNat k (by omega)
      rw [show ((n.toNat : Nat) : Int) = n by omega] at this
      unfold numT
      rw [hb, cond_true, if_neg h0]
      exact this
  · have hb : numB n = false := decide_eq_false h
    unfold impl_NumText_b numT
    rw [within_eq, decide_eq_false h, Bool.not_false, cond_true, hb, cond_false]
/-! ### texts of values -/
def pB (b : Int) : Bool := bif decide (33 ≤ b ∧ b ≤ 126) then (bif (b != 39) then (b != 37) else false) else false
theorem specP_eq (b : Int) (k : Bool → Res) : spec_ValText_p0 b k = k (pB b) := by
  unfold spec_ValText_p0 pB
  by_cases h : 33 ≤ b
  · rw [decide_eq_true (show b ≥ 33 from h), cond_true]
    have : decide (b ≤ 126) = decide (33 ≤ b ∧ b ≤ 126) := decide_eq_decide.2 (by omega)
    rw [this]
    cases decide (33 ≤ b ∧ b ≤ 126)
    · rfl
    · cases b != 39 <;> rfl
  · rw [decide_eq_false (show ¬ b ≥ 33 from h), decide_eq_false (show ¬ (33 ≤ b ∧ b ≤ 126) by omega)]
    rfl
theorem implP_eq (b : Int) (h : 0 ≤ b ∧ b < 256) (k : Bool → Res) : impl_ValText_p0 b k = k (pB b) := by
  unfold impl_ValText_p0 pB
  rw [wi64_of (by omega) (by omega), within_eq]
  cases decide (33 ≤ b ∧ b ≤ 126)
  · rfl
  · cases b != 39 <;> rfl

def h1 (b : Int) : Int := bt z_0123456789abcdef (Int.tmod (wi64 (Int.tdiv (wi64 b) 16)) 16)
def h2 (b : Int) : Int := bt z_0123456789abcdef (Int.tmod (Int.tmod (wi64 b) 16) 16)
theorem hexes : ∀ b : Fin 256, (inb (shrI .u8 ((b.val : Nat) : Int) 4) 16 && inb (andI .u8 ((b.val : Nat) : Int) 15) 16 && (bt z_0123456789abcdef (shrI .u8 ((b.val : Nat) : Int) 4) == h1 ((b.val : Nat) : Int)) && (bt z_0123456789abcdef (andI .u8 ((b.val : Nat) : Int) 15) == h2 ((b.val : Nat) : Int)) &&
    inb (Int.tmod (wi64 (Int.tdiv (wi64 ((b.val : Nat) : Int)) 16)) 16) 16 && inb (Int.tmod (Int.tmod (wi64 ((b.val : Nat) : Int)) 16) 16) 16) = true := by decide +kernel
theorem hex_of {b : Int} (h : 0 ≤ b ∧ b < 256) : inb (shrI .u8 b 4) 16 = true ∧ inb (andI .u8 b 15) 16 = true ∧ bt z_0123456789abcdef (shrI .u8 b 4) = h1 b ∧ bt z_0123456789abcdef (andI .u8 b 15) = h2 b ∧
    inb (Int.tmod (wi64 (Int.tdiv (wi64 b) 16)) 16) 16 = true ∧ inb (Int.tmod (Int.tmod (wi64 b) 16) 16) 16 = true := by
  have := hexes ⟨b.toNat, by omega⟩
  simp only [Bool.and_eq_true, beq_iff_eq] at this
  rw [show ((b.toNat : Nat) : Int) = b by omega] at this
  obtain ⟨⟨⟨⟨⟨a1, a2⟩, a3⟩, a4⟩, a5⟩, a6⟩ := this
  exact ⟨a1, a2, a3, a4, a5, a6⟩
theorem bt_rng (s : ByteArray) (i : Int) : 0 ≤ bt s i ∧ bt s i < 256 := by
  unfold bt
  have := UInt8.toNat_lt (s.data.toList.getD i.toNat 0)
  omega

def gB (b : Int) : List Int := bif pB b then [b] else [37, h1 b, h2 b]
theorem gB_len (b : Int) : (gB b).length ≤ 3 := by unfold gB; cases pB b <;> simp
def outT (s : ByteArray) : List Int := foldN (fun i out => out ++ gB (bt s (i : Int))) 0 s.size [39]

theorem specText_loop (v : V) (h : v.2.2.size ≤ LIM / 4) (K : List Int → Res) : spec_ValText_l1 v FUEL [39] 0 K = K (outT v.2.2) ∧ (outT v.2.2).length ≤ 1 + 3 * v.2.2.size := by
  unfold spec_ValText_l1 outT
  unfold LIM at h
  exact fold_loop v.2.2.size (fun i out => (out, i)) (fun i out => out ++ gB (bt v.2.2 (i : Int))) (fun i out => out.length ≤ 1 + 3 * i) (step := spec_ValText_l1_s v) K K [39] (by unfold LIM; omega) (by simp) (fun i out hi ho => by
    have := gB_len (bt v.2.2 (i : Int)); simp only [List.length_append]; omega) (fun i out rec hi ho => by
    show spec_ValText_l1_r v _ _ _ _ = _
    dsimp only
    unfold spec_ValText_l1_r spec_l01Hex
    obtain ⟨a1, a2, a3, a4, a5, a6⟩ := hex_of (bt_rng v.2.2 (i : Int))
    rw [nI_lt hi, cond_true, inb_of (by omega) (by omega), cond_true, specP_eq, wi64_of (n := (i : Int) + 1) (by omega) (by omega)]
    unfold gB
    cases pB (bt v.2.2 (i : Int))
    · dsimp only
      rw [cond_false, a5, cond_true, a6, cond_true, lim_of (by unfold LIM; omega), cond_true, cond_false]
      rfl
    · dsimp only
      rw [cond_true, lim_of (by unfold LIM; omega), cond_true, cond_true]) (fun out rec ho => by
    show spec_ValText_l1_r v _ _ _ _ = _
    dsimp only
    unfold spec_ValText_l1_r
    rw [nI_ge, cond_false])
theorem implText_loop (v : V) (h : v.2.2.size ≤ LIM / 4) (K : List Int → Res) : impl_ValText_l1 v FUEL [39] 0 K = K (outT v.2.2) := by
  unfold impl_ValText_l1 outT
  unfold LIM at h
  exact (fold_loop v.2.2.size (fun i out => (out, i)) (fun i out => out ++ gB (bt v.2.2 (i : Int))) (fun i out => out.length ≤ 1 + 3 * i) (step := impl_ValText_l1_s v) K K [39] (by unfold LIM; omega) (by simp) (fun i out hi ho => by
    have := gB_len (bt v.2.2 (i : Int)); simp only [List.length_append]; omega) (fun i out rec hi ho => by
    show impl_ValText_l1_r v _ _ _ _ = _
    dsimp only
    unfold impl_ValText_l1_r
    obtain ⟨a1, a2, a3, a4, a5, a6⟩ := hex_of (bt_rng v.2.2 (i : Int))
    rw [nI_lt hi, cond_true, inb_of (by omega) (by omega), cond_true, implP_eq _ (bt_rng _ _), wi64_of (n := (i : Int) + 1) (by omega) (by omega)]
    unfold gB
    cases pB (bt v.2.2 (i : Int))
    · dsimp only
      rw [cond_false, a1, cond_true, a2, cond_true, lim_of (by unfold LIM; omega), cond_true, cond_false, a3, a4]
    · dsimp only
      rw [cond_true, lim_of (by unfold LIM; omega), cond_true, cond_true]) (fun out rec ho => by
    show impl_ValText_l1_r v _ _ _ _ = _
    dsimp only
    unfold impl_ValText_l1_r
    rw [nI_ge, cond_false])).1

def valT (v : V) : ByteArray := bif valB v then (bif v.1 == 0 then z_null else bif v.1 == 1 then (bif v.2.1 == 1 then z_true else z_false) else bif v.1 == 2 then numT v.2.1 else ofBytes (outT v.2.2 ++ [39])) else eS
theorem valB_small {v : V} (hb : valB v = true) (h0 : (v.1 == 0) = false) (h1 : (v.1 == 1) = false) (h2 : (v.1 == 2) = false) : v.2.2.size ≤ 30 := by
  unfold valB at hb
  rw [h0, h1, h2, cond_false, cond_false, cond_false] at hb
  cases h3 : v.1 == 3
  · rw [h3, cond_false] at hb; cases hb
  · rw [h3, cond_true, Bool.and_eq_true, decide_eq_true_eq] at hb
    have := hb.2
    unfold nI at this
    omega
theorem valT_size (v : V) : (valT v).size ≤ 100 := by
  unfold valT
  cases hb : valB v
  · show (0 : Nat) ≤ 100; omega
  · rw [cond_true]
    cases h0 : v.1 == 0
    · cases h1 : v.1 == 1
      · cases h2 : v.1 == 2
        · rw [cond_false, cond_false, cond_false, ofBytes_size]
          have hs := valB_small hb h0 h1 h2
          have := (specText_loop v (by unfold LIM; omega) (fun _ => none)).2
          simp only [List.length_append, List.length_cons, List.length_nil]
          omega
        · rw [cond_false, cond_false, cond_true]
          have := numT_size v.2.1
          omega
      · rw [cond_false, cond_true]
        cases v.2.1 == 1
        · show (5 : Nat) ≤ 100; omega
        · show (4 : Nat) ≤ 100; omega
    · show (4 : Nat) ≤ 100; omega
theorem specT_eq (v : V) (k : ByteArray → Res) : spec_ValText v k = k (valT v) := by
  unfold spec_ValText valT
  rw [specVal_eq]
  cases hb : valB v
  · rfl
  · rw [Bool.not_true, cond_false, cond_true]
    cases h0 : v.1 == 0
    · cases h1 : v.1 == 1
      · cases h2 : v.1 == 2
        · have hs := valB_small hb h0 h1 h2
          obtain ⟨e1, e2⟩ := specText_loop v (by unfold LIM; omega) (fun (out : List Int) => bif lim ((List.length out) + 1) then k (ofBytes (out ++ [39])) else none)
          rw [cond_false, cond_false, cond_false, e1, lim_of (by unfold LIM; omega), cond_true, cond_false, cond_false, cond_false]
        · rw [cond_false, cond_false, cond_true, specNum_eq, cond_false, cond_false, cond_true]
      · unfold spec_l01Bool
        cases v.2.1 == 1 <;> rfl
    · rfl
theorem implT_eq (v : V) (k : ByteArray → Res) : impl_ValText v k = k (valT v) := by
  unfold impl_ValText valT
  rw [implVal_eq]
  cases hb : valB v
  · rfl
  · rw [Bool.not_true, cond_false, cond_true]
    cases h0 : v.1 == 0
    · cases h1 : v.1 == 1
      · cases h2 : v.1 == 2
        · have hs := valB_small hb h0 h1 h2
          have e1 := implText_loop v (by unfold LIM; omega) (fun (out : List Int) => bif lim ((List.length out) + 1) then k (ofBytes (out ++ [39])) else none)
          have e2 := (specText_loop v (by unfold LIM; omega) (fun _ => none)).2
          rw [cond_false, cond_false, cond_false, e1, lim_of (by unfold LIM; omega), cond_true, cond_false, cond_false, cond_false]
        · rw [cond_false, cond_false, cond_true, implNum_eq, cond_false, cond_false, cond_true]
      · unfold impl_boolText
        cases v.2.1 == 1 <;> rfl
    · rfl

end Go.PI.G
namespace Go.PI.G
open Go Go.PI Go.Proofs

/-! ### rows -/
def valsT (l : List V) : List ByteArray := foldN (fun i out => out ++ [valT (nth (0, 0, eS) l (i : Int))]) 0 l.length []
def pT (i : Nat) (out : List ByteArray) : Prop := out.length ≤ i ∧ ∀ x ∈ out, x.size ≤ 100
theorem pT_step (l : List V) (i : Nat) (out : List ByteArray) (h : pT i out) : pT (i + 1) (out ++ [valT (nth (0, 0, eS) l (i : Int))]) := by
  refine ⟨by simp; exact h.1, fun x hx => ?_⟩
  rcases List.mem_append.1 hx with hx | hx
  · exact h.2 x hx
  · simp only [List.mem_cons, List.not_mem_nil, or_false] at hx
    subst hx; exact valT_size _
theorem specVals_eq (l : List V) (h : l.length ≤ LIM) (k : List ByteArray → Res) : spec_l05Vals l k = k (valsT l) ∧ pT l.length (valsT l) := by
  unfold spec_l05Vals spec_l05Vals_l0 valsT
  exact fold_loop l.length (fun i out => (out, i)) _ pT (step := spec_l05Vals_l0_s l (nI l.length)) (fun out => k out) k [] h ⟨by simp, by simp⟩ (fun i out hi ho => pT_step l i out ho) (fun i out rec hi ho => by
    show spec_l05Vals_l0_r _ _ _ _ _ _ = _
    dsimp only
    unfold spec_l05Vals_l0_r
    unfold LIM at h
    have := ho.1
    rw [nI_lt hi, cond_true, inb_of (by omega) (by omega), cond_true, specT_eq, lim_of (by unfold LIM; omega), cond_true, wi64_of (by omega) (by omega)]) (fun out rec ho => by
    show spec_l05Vals_l0_r _ _ _ _ _ _ = _
    dsimp only
    unfold spec_l05Vals_l0_r
    rw [nI_ge, cond_false])

def joinF (l : List ByteArray) (i : Nat) (out : ByteArray) : ByteArray := bif decide ((i : Int) > 0) then (out ++ z___1) ++ nth eS l (i : Int) else out ++ nth eS l (i : Int)
def joinT (l : List ByteArray) : ByteArray := foldN (joinF l) 0 l.length eS
def pJ (i : Nat) (out : ByteArray) : Prop := out.size ≤ 101 * i
theorem nth_sz (l : List ByteArray) (hl : ∀ x ∈ l, x.size ≤ 100) (i : Nat) (hi : i < l.length) : (nth eS l (i : Int)).size ≤ 100 := by
  rw [nth_nat _ _ _ hi]; exact hl _ (List.getElem_mem _)
theorem pJ_step (l : List ByteArray) (hl : ∀ x ∈ l, x.size ≤ 100) (i : Nat) (out : ByteArray) (hi : i < l.length) (h : pJ i out) : pJ (i + 1) (joinF l i out) := by
  have := nth_sz l hl i hi
  have h1 : z___1.size = 1 := rfl
  unfold pJ joinF at *
  cases decide ((i : Int) > 0)
  · rw [cond_false, ByteArray.size_append]; omega
  · rw [cond_true, ByteArray.size_append, ByteArray.size_append]; omega
theorem specJoin_eq (l : List ByteArray) (h : l.length ≤ 1048576) (hl : ∀ x ∈ l, x.size ≤ 100) (k : ByteArray → Res) : spec_l05Join l k = k (joinT l) ∧ pJ l.length (joinT l) := by
  unfold spec_l05Join spec_l05Join_l0 joinT
  exact fold_loop l.length (fun i out => (out, i)) _ pJ (step := spec_l05Join_l0_s l (nI l.length)) (fun out => k out) k eS (by unfold LIM; omega) (Nat.zero_le _) (fun i out hi ho => pJ_step l hl i out hi ho) (fun i out rec hi ho => by
    show spec_l05Join_l0_r _ _ _ _ _ _ = _
    dsimp only
    unfold spec_l05Join_l0_r joinF
    have := nth_sz l hl i hi
    have h1 : z___1.size = 1 := rfl
    unfold pJ at ho
    rw [nI_lt hi, cond_true, inb_of (by omega) (by omega), cond_true, wi64_of (by omega) (by omega)]
    cases decide ((i : Int) > 0)
    · rw [cond_false, cond_false, lim_of (by unfold LIM; omega), cond_true]
    · rw [cond_true, cond_true, lim_of (by unfold LIM; omega), cond_true, lim_of (by rw [ByteArray.size_append]; unfold LIM; omega), cond_true]) (fun out rec ho => by
    show spec_l05Join_l0_r _ _ _ _ _ _ = _
    dsimp only
    unfold spec_l05Join_l0_r
    rw [nI_ge, cond_false])
theorem implJoin_eq (l : List ByteArray) (h : l.length ≤ 1048576) (hl : ∀ x ∈ l, x.size ≤ 100) (k : ByteArray → Res) : impl_glued l k = k (joinT l) := (specJoin_eq l h hl k).1
theorem implVals_eq (l : List V) (h : l.length ≤ 1048576) (k : ByteArray → Res) : impl_valTexts l k = k (joinT (valsT l)) := by
  obtain ⟨_, hp⟩ := specVals_eq l (by unfold LIM; omega) (fun _ => none)
  unfold impl_valTexts impl_valTexts_l0
  have := (fold_loop l.length (fun i out => (out, i)) _ pT (step := impl_valTexts_l0_s l (nI l.length)) (fun out => impl_glued out fun (r : ByteArray) => k r) (fun out => impl_glued out fun (r : ByteArray) => k r) [] (by unfold LIM; omega) ⟨by simp, by simp⟩ (fun i out hi ho => pT_step l i out ho) (fun i out rec hi ho => by
    show impl_valTexts_l0_r _ _ _ _ _ _ = _
    dsimp only
    unfold impl_valTexts_l0_r
    have := ho.1
    rw [nI_lt hi, cond_true, inb_of (by omega) (by omega), cond_true, implT_eq, lim_of (by unfold LIM; omega), cond_true, wi64_of (by omega) (by omega)]) (fun out rec ho => by
    show impl_valTexts_l0_r _ _ _ _ _ _ = _
    dsimp only
    unfold impl_valTexts_l0_r
    rw [nI_ge, cond_false])).1
  refine this.trans ?_
  exact implJoin_eq (valsT l) (by have := hp.1; omega) hp.2 k

def rowBad (l : List V) : Bool := (List.range l.length).any fun i => !valB (nth (0, 0, eS) l (i : Int))
def rowT (l : List V) : ByteArray := bif rowBad l then eS else joinT (valsT l)
theorem specRowT_eq (l : List V) (h : l.length ≤ 1048576) (k : ByteArray → Res) : spec_RowText l k = k (rowT l) := by
  obtain ⟨e1, hp⟩ := specVals_eq l (by unfold LIM; omega) (fun (r1 : List ByteArray) => spec_l05Join r1 fun (r2 : ByteArray) => k r2)
  unfold spec_RowText spec_RowText_l0
  have := scan_loop l.length (fun i => i) (fun i => !valB (nth (0, 0, eS) l (i : Int))) (step := spec_RowText_l0_s l (nI l.length)) ((fun (_ : Unit) => spec_l05Vals l fun (r1 : List ByteArray) => spec_l05Join r1 fun (r2 : ByteArray) => k r2), (fun (_ : Unit) => k eS))
    (spec_l05Vals l fun (r1 : List ByteArray) => spec_l05Join r1 fun (r2 : ByteArray) => k r2) (fun _ => k eS) (by unfold LIM; omega) (fun i rec hi => by
    show spec_RowText_l0_r _ _ _ _ _ _ = _
    unfold spec_RowText_l0_r
    rw [nI_lt hi, cond_true, inb_of (by omega) (by omega), cond_true, specVal_eq, wi64_of (by omega) (by omega)]) (fun rec => by
    show spec_RowText_l0_r _ _ _ _ _ _ = _
    unfold spec_RowText_l0_r
    rw [nI_ge, cond_false])
  refine this.trans ?_
  rw [find_const, e1, (specJoin_eq (valsT l) (by have := hp.1; omega) hp.2 k).1]
  unfold rowT rowBad
  cases (List.range l.length).any fun i => !valB (nth (0, 0, eS) l (i : Int)) <;> rfl
theorem implRowT_eq (l : List V) (h : l.length ≤ 1048576) (k : ByteArray → Res) : impl_RowText l k = k (rowT l) := by
  unfold impl_RowText impl_RowText_l0
  have := scan_loop l.length (fun i => i) (fun i => !valB (nth (0, 0, eS) l (i : Int))) (step := impl_RowText_l0_s l (nI l.length)) ((fun (_ : Unit) => impl_valTexts l fun (r1 : ByteArray) => k r1), (fun (_ : Unit) => k eS))
    (impl_valTexts l fun (r1 : ByteArray) => k r1) (fun _ => k eS) (by unfold LIM; omega) (fun i rec hi => by
    show impl_RowText_l0_r _ _ _ _ _ _ = _
    unfold impl_RowText_l0_r
    rw [nI_lt hi, cond_true, inb_of (by omega) (by omega), cond_true, implVal_eq, wi64_of (by omega) (by omega)]) (fun rec => by
    show impl_RowText_l0_r _ _ _ _ _ _ = _
    unfold impl_RowText_l0_r
    rw [nI_ge, cond_false])
  refine this.trans ?_
  rw [find_const, implVals_eq l h]
  unfold rowT rowBad
  cases (List.range l.length).any fun i => !valB (nth (0, 0, eS) l (i : Int)) <;> rfl
theorem rowT_size (l : List V) (h : l.length ≤ 1048576) : (rowT l).size ≤ LIM := by
  obtain ⟨_, hp⟩ := specVals_eq l (by unfold LIM; omega) (fun _ => none)
  have hj := (specJoin_eq (valsT l) (by have := hp.1; omega) hp.2 (fun _ => none)).2
  have := hp.1
  unfold pJ at hj
  unfold rowT LIM
  cases rowBad l
  · rw [cond_false]; omega
  · show (0 : Nat) ≤ 2147483648; omega

def sumF (b : List Int) (i : Nat) (n : Int) : Int := Int.tmod (wi64 ((wi64 ((wi64 (257 * n)) + (wi64 (nth 0 b (i : Int))))) + 1)) 16777213
def sumT (b : List Int) : Int := foldN (sumF b) 0 b.length 1
theorem specSum_eq (b : List Int) (h : b.length ≤ LIM) (k : Int → Res) : spec_Sum b k = k (sumT b) := by
  unfold spec_Sum spec_Sum_l0 sumT
  exact (fold_loop b.length (fun i n => (n, i)) (sumF b) (fun _ _ => True) (step := spec_Sum_l0_s b (nI b.length)) (fun n => k n) k 1 h trivial (fun _ _ _ _ => trivial) (fun i n rec hi ho => by
    show spec_Sum_l0_r _ _ _ _ _ _ = _
    dsimp only
    unfold spec_Sum_l0_r sumF
    unfold LIM at h
    rw [nI_lt hi, cond_true, inb_of (by omega) (by omega), cond_true, wi64_of (n := (i : Int) + 1) (by omega) (by omega)]) (fun n rec ho => by
    show spec_Sum_l0_r _ _ _ _ _ _ = _
    dsimp only
    unfold spec_Sum_l0_r
    rw [nI_ge, cond_false])).1
theorem implSum_eq (b : List Int) (h : b.length ≤ LIM) (k : Int → Res) : impl_Sum b k = k (sumT b) := specSum_eq b h k
theorem specRowSum_eq (l : List V) (h : l.length ≤ 1048576) (k : Int → Res) : spec_RowSum l k = k (sumT (toBytes (rowT l))) := by
  unfold spec_RowSum
  have := rowT_size l h
  rw [specRowT_eq l h, lim_of this, cond_true, specSum_eq _ (by rw [toBytes_len]; exact this)]
theorem implRowSum_eq (l : List V) (h : l.length ≤ 1048576) (k : Int → Res) : impl_RowSum l k = k (sumT (toBytes (rowT l))) := by
  unfold impl_RowSum
  have := rowT_size l h
  rw [implRowT_eq l h, lim_of this, cond_true, implSum_eq _ (by rw [toBytes_len]; exact this)]

end Go.PI.G
namespace Go.PI.G
open Go Go.PI Go.Proofs

def tsum (d : DB) (n : ByteArray) : Int := bif dbB d && !decide (tabAt d.1 n < 0) then (nth [] d.2 (tabAt d.1 n)).foldl (fun a r => Int.tmod (wi64 (a + sumT (toBytes (rowT r)))) 16777213) 0 else -1
theorem specTSum_eq (d : DB) (h : msr yDB d ≤ 1048576) (n : ByteArray) (k : Int → Res) : spec_TableSum d n k = k (tsum d n) := by
  obtain ⟨m1, m2, m3, m4, m5⟩ := msr_DB h
  unfold spec_TableSum tsum
  rw [specTabAt_eq _ _ (by unfold LIM; omega), specDb_eq d h]
  cases hd : dbB d
  · rfl
  · rw [Bool.not_true, cond_false, Bool.true_and]
    have hr := tabAt_range d.1 n
    by_cases h0 : tabAt d.1 n < 0
    · rw [decide_eq_true h0]; rfl
    · obtain ⟨q1, q2, q3⟩ := dbB_parts hd
      obtain ⟨i, hi⟩ : ∃ i : Nat, tabAt d.1 n = (i : Int) := ⟨(tabAt d.1 n).toNat, by omega⟩
      have h1 : i < d.1.length := by omega
      have h2 : i < d.2.length := by omega
      have hrows := q3 i h1 h2
      obtain ⟨r1, r2, r3⟩ := rowsB_parts hrows
      have hp := tabB_parts r1
      rw [decide_eq_false h0, cond_false, Bool.not_false, cond_true, hi, inb_nat h2, cond_true, nth_nat _ _ _ h2]
      unfold spec_TableSum_l0
      exact foldl_loop d.2[i] (fun i a => (a, i)) (fun a r => Int.tmod (wi64 (a + sumT (toBytes (rowT r)))) 16777213) (fun _ _ => True) (step := spec_TableSum_l0_s d.2[i] (nI d.2[i].length)) (fun a => k a) (fun a => k a) 0 (by unfold LIM; omega) trivial (fun _ _ _ _ => trivial) (fun j a rec hj _ => by
        show spec_TableSum_l0_r _ _ _ _ _ _ = _
        unfold spec_TableSum_l0_r
        dsimp only
        have hl := rowB_len (r3 _ (List.getElem_mem hj))
        rw [nI_lt hj, cond_true, inb_nat hj, cond_true, nth_nat _ _ _ hj, specRowSum_eq _ (by omega), wi64_in (n := (j : Int) + 1) (by omega)]) (fun a rec _ => by
        show spec_TableSum_l0_r _ _ _ _ _ _ = _
        unfold spec_TableSum_l0_r
        dsimp only
        rw [nI_ge, cond_false])
theorem implTSum_eq (d : DB) (h : msr yDB d ≤ 1048576) (n : ByteArray) (k : Int → Res) : impl_TableSum d n k = k (tsum d n) := by
  obtain ⟨m1, m2, m3, m4, m5⟩ := msr_DB h
  unfold impl_TableSum tsum
  rw [implTabAt_eq _ _ (by unfold LIM; omega), implDb_eq d h]
  cases hd : dbB d
  · rfl
  · rw [Bool.not_true, cond_false, Bool.true_and]
    have hr := tabAt_range d.1 n
    by_cases h0 : tabAt d.1 n < 0
    · rw [decide_eq_true h0]; rfl
    · obtain ⟨q1, q2, q3⟩ := dbB_parts hd
      obtain ⟨i, hi⟩ : ∃ i : Nat, tabAt d.1 n = (i : Int) := ⟨(tabAt d.1 n).toNat, by omega⟩
      have h1 : i < d.1.length := by omega
      have h2 : i < d.2.length := by omega
      have hrows := q3 i h1 h2
      obtain ⟨r1, r2, r3⟩ := rowsB_parts hrows
      have hp := tabB_parts r1
      rw [decide_eq_false h0, cond_false, Bool.not_false, cond_true, hi, inb_nat h2, cond_true, nth_nat _ _ _ h2]
      unfold impl_TableSum_l0
      exact foldl_loop d.2[i] (fun i a => (a, i)) (fun a r => Int.tmod (wi64 (a + sumT (toBytes (rowT r)))) 16777213) (fun _ _ => True) (step := impl_TableSum_l0_s d.2[i] (nI d.2[i].length)) (fun a => k a) (fun a => k a) 0 (by unfold LIM; omega) trivial (fun _ _ _ _ => trivial) (fun j a rec hj _ => by
        show impl_TableSum_l0_r _ _ _ _ _ _ = _
        unfold impl_TableSum_l0_r
        dsimp only
        have hl := rowB_len (r3 _ (List.getElem_mem hj))
        rw [nI_lt hj, cond_true, inb_nat hj, cond_true, nth_nat _ _ _ hj, implRowSum_eq _ (by omega), wi64_in (n := (j : Int) + 1) (by omega)]) (fun a rec _ => by
        show impl_TableSum_l0_r _ _ _ _ _ _ = _
        unfold impl_TableSum_l0_r
        dsimp only
        rw [nI_ge, cond_false])
end Go.PI.G
namespace Go.PI.G
open Go Go.PI Go.Proofs

theorem markText_loop (k : ByteArray → Res) : ∀ (m n d : Nat) (s : ByteArray), n < m → 0 < n → n ≤ 4294967296 → n < 10 ^ (d + 1) → s.size + d ≤ 1000 →
    iter laws_markText_l0_s m ((n : Int), s) k = k (digt n ++ s)
  | 0, n, d, s, h, _, _, _, _ => by omega
  | m + 1, n, d, s, h, hn, hb, hd, hs => by
    rw [iter_succ]
    show laws_markText_l0_r _ _ _ _ = _
    unfold laws_markText_l0_r
    have h9 : decide ((n : Int) > 0) = true := decide_eq_true (by omega)
    rw [h9, cond_true, tdiv_nat, tmod_nat, wi64_of (n := ((n / 10 : Nat) : Int)) (by omega) (by omega)]
    show (bif lim ((dgt ((n % 10 : Nat) : Int)).size + s.size) then iter laws_markText_l0_s m (((n / 10 : Nat) : Int), dgt ((n % 10 : Nat) : Int) ++ s) k else none) = _
    rw [dgt_size, lim_of (by unfold LIM; omega), cond_true]
    by_cases h1 : n < 10
    · have h10 : n / 10 = 0 := by omega
      have h11 : n % 10 = n := by omega
      rw [h10, h11, digt_lo h1]
      obtain ⟨m, rfl⟩ : ∃ e, m = e + 1 := ⟨m - 1, by omega⟩
      rw [iter_succ]
      show laws_markText_l0_r _ _ _ _ = _
      unfold laws_markText_l0_r
      have h0 : decide (((0 : Nat) : Int) > 0) = false := decide_eq_false (by omega)
      rw [h0, cond_false]
    · obtain ⟨d, rfl⟩ : ∃ e, d = e + 1 := by
        cases d with
        | zero => exact absurd (by simpa using hd) h1
        | succ d => exact ⟨d, rfl⟩
      rw [markText_loop k m (n / 10) d _ (by omega) (by omega) (by omega) (Nat.div_lt_of_lt_mul (by rw [Nat.pow_succ] at hd; omega)) (by rw [ByteArray.size_append, dgt_size]; omega), digt_hi h1, ByteArray.append_assoc]
theorem markText_eq (k : Int) (h : 1 ≤ k ∧ k ≤ 4294967296) (K : ByteArray → Res) : laws_markText k K = K (mT k) := by
  unfold laws_markText laws_markText_l0
  have h0 : decide (k ≤ 0) = false := decide_eq_false (by omega)
  have := markText_loop (fun (out : ByteArray) => bif lim (1 + (ByteArray.size out)) then K (z_m ++ out) else none) FUEL k.toNat 12 eS (FUEL_lt (by omega)) (by omega) (by omega) (by omega) (by show 0 + 12 ≤ 1000; omega)
  rw [show ((k.toNat : Nat) : Int) = k by omega, eS_app] at this
  rw [h0, cond_false]
  refine this.trans ?_
  have hs := digt_size 12 k.toNat (by omega)
  rw [lim_of (by unfold LIM; omega), cond_true]
  rfl
end Go.PI.G
