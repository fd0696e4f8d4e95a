/-
  Catalogs, rows, keys, stores: what the program and the reference say. Lemmas; no conditions.
-/
import Derived.Test.YtcapkiofiipamaaGRL03
import Derived.Test.YtcapkiofiipamaaGRN02
set_option linter.unusedVariables false
set_option linter.unusedSimpArgs false
namespace Go.PI.G
open Go Go.PI Go.Proofs

/-- Is there one that is bad, where the earlier ones are known to be good? -/
theorem anyP_loop {α V K : Type} (l : List α) (st : Int → V) (bad : Nat → α → Bool) (p : Nat → Prop) {step : V → (V → Res) → K → Res} (q : K) (fin ex : Res) (hN : l.length ≤ LIM) (h0 : p 0)
    (hp : ∀ (i : Nat), (hi : i < l.length) → p i → bad i l[i] = false → p (i + 1))
    (hs : ∀ (i : Nat) rec, (hi : i < l.length) → p i → step (st i) rec q = bif bad i l[i] then ex else rec (st ((i : Int) + 1))) (he : ∀ rec, step (st (l.length : Int)) rec q = fin) :
    iter step FUEL (st 0) q = bif anyI bad 0 l then ex else fin := by
  have h := walk_loop l (fun i (_ : Unit) => st i) (fun i _ x => if bad i x then .error () else (.ok () : Except Unit Unit)) (fun i _ => p i) q (fun _ => fin) (fun _ => ex) () hN h0 (fun i a a' hi hpi hf => by
      refine hp i hi hpi ?_
      cases hb : bad i l[i] with
      | false => rfl
      | true => rw [hb] at hf; cases hf)
    (fun i a rec hi hpi => by
      rw [hs i rec hi hpi]
      cases bad i l[i] <;> rfl) (fun a rec _ => he rec)
  rw [h]
  have : ∀ (l : List α) (i : Nat), walkL (fun i _ x => if bad i x then .error () else (.ok () : Except Unit Unit)) i l () = bif anyI bad i l then .error () else .ok () := by
    intro l
    induction l with
    | nil => intro i; rfl
    | cons x l ih =>
      intro i
      simp only [walkL, anyI]
      cases bad i x with
      | true => rfl
      | false => exact ih _
  rw [this]
  cases anyI bad 0 l <;> rfl

/-! ### rows -/
theorem specFits_eq (c : C) (hc : colB c = true) (v : V) (k : Bool → Res) : spec_l03Fits c v k = k (fits c v) := by
  have h1 := colB_ty hc
  unfold spec_l03Fits fits
  rw [specVal_eq, specVal_eq]
  cases h0 : v.1 == 0
  · cases valB v
    · rfl
    · rw [cond_false, cond_true, Bool.false_and, Bool.or_false, Bool.true_and]
  · have h2 : (v.1 == c.2.1) = false := by
      rw [beq_iff_eq] at h0
      simp; omega
    rw [h2, Bool.true_and, Bool.false_or]
    cases valB v <;> rfl
theorem implFits_eq (c : C) (v : V) (k : Bool → Res) : impl_stands c v k = k (fits c v) := by
  unfold impl_stands fits
  rw [implVal_eq]
  cases valB v
  · rfl
  · cases v.1 == c.2.1
    · cases v.1 == 0 <;> rfl
    · rfl
theorem specRow_eq (t : T) (h : msr yT t ≤ 1048576) (r : List V) (k : Bool → Res) : spec_RowOk t r k = k (tabB t && rowB t.2.1 r) := by
  obtain ⟨m1, m2, m3, m4, m5⟩ := msr_T h
  unfold spec_RowOk
  rw [specTab_eq t h]
  cases ht : tabB t
  · rfl
  · rw [Bool.not_true, cond_false, Bool.true_and]
    unfold rowB
    by_cases hl : r.length = t.2.1.length
    · have hb : (nI r.length != nI t.2.1.length) = false := by rw [hl, bne_f]
      rw [hb, cond_false, decide_eq_true hl, Bool.true_and]
      unfold spec_RowOk_l0
      have := anyI_loop t.2.1 (fun i => i) (fun i c => !fits c (nth zV r (i : Int))) (step := spec_RowOk_l0_s t.2.1 (nI t.2.1.length) r) ((fun (_ : Unit) => k true), (fun (_ : Unit) => k false)) (k true) (k false) (by unfold LIM; omega) (fun i rec hi => by
        show spec_RowOk_l0_r _ _ r _ _ _ _ = _
        unfold spec_RowOk_l0_r
        rw [nI_lt hi, cond_true, inb_nat hi, cond_true, inb_nat (hl ▸ hi), cond_true, nth_nat _ _ _ hi, specFits_eq _ (colsB_get (tabB_parts ht).2.2.2.2.1 i hi), wi64_in (n := (i : Int) + 1) (by omega)]) (fun rec => by
        show spec_RowOk_l0_r _ _ r _ _ _ _ = _
        unfold spec_RowOk_l0_r
        rw [nI_ge, cond_false])
      refine this.trans ?_
      cases anyI (fun i c => !fits c (nth zV r (i : Int))) 0 t.2.1 <;> rfl
    · have hb : (nI r.length != nI t.2.1.length) = true := by unfold nI; simp; omega
      rw [hb, cond_true, decide_eq_false hl, Bool.false_and]
theorem implRow_eq (t : T) (h : msr yT t ≤ 1048576) (r : List V) (k : Bool → Res) : impl_rowOk t r k = k (rowB t.2.1 r) := by
  obtain ⟨m1, m2, m3, m4, m5⟩ := msr_T h
  unfold impl_rowOk rowB
  by_cases hl : r.length = t.2.1.length
  · have hb : (nI r.length != nI t.2.1.length) = false := by rw [hl, bne_f]
    rw [hb, cond_false, decide_eq_true hl, Bool.true_and]
    unfold impl_rowOk_l0
    have := anyI_loop t.2.1 (fun i => i) (fun i c => !fits c (nth zV r (i : Int))) (step := impl_rowOk_l0_s r (nI r.length) t) ((fun (_ : Unit) => k true), (fun (_ : Unit) => k false)) (k true) (k false) (by unfold LIM; omega) (fun i rec hi => by
      show impl_rowOk_l0_r _ _ t _ _ _ _ = _
      unfold impl_rowOk_l0_r
      rw [hl, nI_lt hi, cond_true, inb_nat hi, cond_true, cond_true, nth_nat zC _ _ hi, implFits_eq, wi64_in (n := (i : Int) + 1) (by omega)]) (fun rec => by
      show impl_rowOk_l0_r _ _ t _ _ _ _ = _
      unfold impl_rowOk_l0_r
      rw [hl, nI_ge, cond_false])
    refine this.trans ?_
    cases anyI (fun i c => !fits c (nth zV r (i : Int))) 0 t.2.1 <;> rfl
  · have hb : (nI r.length != nI t.2.1.length) = true := by unfold nI; simp; omega
    rw [hb, cond_true, decide_eq_false hl, Bool.false_and]
theorem rowB_len {l : List C} {r : List V} (h : rowB l r = true) : r.length = l.length := by
  unfold rowB at h
  rw [Bool.and_eq_true, decide_eq_true_eq] at h
  exact h.1

/-! ### keys -/
theorem flat_one {α β : Type} (f : α → β) : (l : List α) → l.flatMap (fun x => [f x]) = l.map f
  | [] => rfl
  | x :: l => by rw [List.flatMap_cons, flat_one f l]; rfl
theorem keyV_len (t : T) (r : List V) : (keyV t r).length = t.2.2.length := by unfold keyV; simp
theorem specKey_eq (t : T) (h : msr yT t ≤ 1048576) (ht : tabB t = true) (r : List V) (hr : r.length = t.2.1.length) (k : List V → Res) : spec_l03Key t r k = k (keyV t r) := by
  obtain ⟨m1, m2, m3, m4, m5⟩ := msr_T h
  unfold spec_l03Key spec_l03Key_l0
  have hk := keysUp_range t.2.2 (-1) (by omega) (tabB_parts ht).2.2.2.2.2
  have := flat_loop t.2.2 (fun i out => (out, i)) (fun n => [nth zV r (colAt t.2.1 n)]) 1048576 [] (step := spec_l03Key_l0_s t.2.2 (nI t.2.2.length) t r) (fun out => k out) (fun out => k out) (by unfold LIM; omega) (fun i hi _ => by
    rw [flat_one, List.nil_append, List.length_map, List.length_take]; omega) (by simp) (fun i out rec hi ho _ => by
    show spec_l03Key_l0_r _ _ t r _ _ _ _ = _
    unfold spec_l03Key_l0_r
    have hk' := hk _ (List.getElem_mem hi)
    have hlo : out.length = i := by
      rw [ho, flat_one, List.nil_append, List.length_map, List.length_take]; omega
    dsimp only
    rw [nI_lt hi, cond_true, inb_nat hi, cond_true, nth_nat _ _ _ hi, specAt_eq t _ (by unfold LIM; omega), inb_of hk'.1 (by omega), cond_true, lim_of (by unfold LIM; omega), cond_true, wi64_in (n := (i : Int) + 1) (by omega)]) (fun out rec => by
    show spec_l03Key_l0_r _ _ t r _ _ _ _ = _
    unfold spec_l03Key_l0_r
    dsimp only
    rw [nI_ge, cond_false])
  refine this.trans ?_
  rw [flat_one, List.nil_append]
  rfl
theorem specKeyLess_eq (a b : List V) (ha : a.length ≤ LIM) (k : Bool → Res) : spec_KeyLess a b k = k (klt a b) := by
  unfold spec_KeyLess spec_KeyLess_l0
  unfold LIM at ha
  have key : ∀ (d i n : Nat), i + d = a.length → d < n → i ≤ b.length → iter (spec_KeyLess_l0_s a b) n (i : Int) ((fun (_ : Unit) => k (decide (nI a.length < nI b.length))), (fun (t : Bool) => k t)) = k (klt (a.drop i) (b.drop i)) := by
    intro d
    induction d with
    | zero =>
      intro i n hi hn hb
      obtain ⟨n, rfl⟩ : ∃ m, n = m + 1 := ⟨n - 1, by omega⟩
      have : i = a.length := by omega
      subst this
      show spec_KeyLess_l0_r a b _ _ _ _ = _
      unfold spec_KeyLess_l0_r
      rw [nI_ge, cond_false, List.drop_length]
      show k (decide (nI a.length < nI b.length)) = _
      by_cases h1 : a.length < b.length
      · rw [List.drop_eq_getElem_cons h1, decide_eq_true (show nI a.length < nI b.length by unfold nI; omega)]
        rfl
      · rw [List.drop_of_length_le (by omega), decide_eq_false (show ¬ nI a.length < nI b.length by unfold nI; omega)]
        rfl
    | succ d ih =>
      intro i n hi hn hb
      obtain ⟨n, rfl⟩ : ∃ m, n = m + 1 := ⟨n - 1, by omega⟩
      have hlt : i < a.length := by omega
      show spec_KeyLess_l0_r a b _ _ _ _ = _
      unfold spec_KeyLess_l0_r
      rw [nI_lt hlt, cond_true, List.drop_eq_getElem_cons hlt]
      by_cases h1 : i < b.length
      · rw [nI_lt h1, cond_true, inb_nat hlt, cond_true, inb_nat h1, cond_true, List.drop_eq_getElem_cons h1, nth_nat _ _ _ hlt, nth_nat _ _ _ h1, cond_true, cond_true, specLess_eq, wi64_in (n := (i : Int) + 1) (by omega)]
        show (bif !veq a[i] b[i] then _ else _) = k (bif veq a[i] b[i] then _ else _)
        cases veq a[i] b[i]
        · rfl
        · exact ih (i + 1) n (by omega) (by omega) (by omega)
      · have : i = b.length := by omega
        subst this
        rw [nI_ge, cond_false, List.drop_length]
        show k (decide (nI a.length < nI b.length)) = _
        rw [decide_eq_false (show ¬ nI a.length < nI b.length by unfold nI; omega)]
        rfl
  exact key a.length 0 FUEL (by omega) (FUEL_lt (by omega)) (by omega)
theorem implKey_eq (t : T) (h : msr yT t ≤ 1048576) (ht : tabB t = true) (r : List V) (hr : r.length = t.2.1.length) (k : List V → Res) : impl_keyOf t r k = k (keyV t r) := by
  obtain ⟨m1, m2, m3, m4, m5⟩ := msr_T h
  unfold impl_keyOf impl_keyOf_l0
  have hk := keysUp_range t.2.2 (-1) (by omega) (tabB_parts ht).2.2.2.2.2
  have := flat_loop t.2.2 (fun i out => (out, i)) (fun n => [nth zV r (colAt t.2.1 n)]) 1048576 [] (step := impl_keyOf_l0_s t.2.2 (nI t.2.2.length) t r) (fun out => k out) (fun out => k out) (by unfold LIM; omega) (fun i hi _ => by
    rw [flat_one, List.nil_append, List.length_map, List.length_take]; omega) (by simp) (fun i out rec hi ho _ => by
    show impl_keyOf_l0_r _ _ t r _ _ _ _ = _
    unfold impl_keyOf_l0_r
    have hk' := hk _ (List.getElem_mem hi)
    have hlo : out.length = i := by
      rw [ho, flat_one, List.nil_append, List.length_map, List.length_take]; omega
    dsimp only
    rw [nI_lt hi, cond_true, inb_nat hi, cond_true, nth_nat _ _ _ hi, implAt_eq t _ (by unfold LIM; omega), inb_of hk'.1 (by omega), cond_true, lim_of (by unfold LIM; omega), cond_true, wi64_in (n := (i : Int) + 1) (by omega)]) (fun out rec => by
    show impl_keyOf_l0_r _ _ t r _ _ _ _ = _
    unfold impl_keyOf_l0_r
    dsimp only
    rw [nI_ge, cond_false])
  refine this.trans ?_
  rw [flat_one, List.nil_append]
  rfl
theorem implKeyLess_eq (a b : List V) (ha : a.length ≤ LIM) (k : Bool → Res) : impl_KeyLess a b k = k (klt a b) := by
  unfold impl_KeyLess impl_KeyLess_l0
  unfold LIM at ha
  have key : ∀ (d i n : Nat), i + d = a.length → d < n → i ≤ b.length → iter (impl_KeyLess_l0_s a b) n (i : Int) ((fun (_ : Unit) => k (decide (nI a.length < nI b.length))), (fun (t : Bool) => k t)) = k (klt (a.drop i) (b.drop i)) := by
    intro d
    induction d with
    | zero =>
      intro i n hi hn hb
      obtain ⟨n, rfl⟩ : ∃ m, n = m + 1 := ⟨n - 1, by omega⟩
      have : i = a.length := by omega
      subst this
      show impl_KeyLess_l0_r a b _ _ _ _ = _
      unfold impl_KeyLess_l0_r
      rw [nI_ge, cond_false, List.drop_length]
      show k (decide (nI a.length < nI b.length)) = _
      by_cases h1 : a.length < b.length
      · rw [List.drop_eq_getElem_cons h1, decide_eq_true (show nI a.length < nI b.length by unfold nI; omega)]
        rfl
      · rw [List.drop_of_length_le (by omega), decide_eq_false (show ¬ nI a.length < nI b.length by unfold nI; omega)]
        rfl
    | succ d ih =>
      intro i n hi hn hb
      obtain ⟨n, rfl⟩ : ∃ m, n = m + 1 := ⟨n - 1, by omega⟩
      have hlt : i < a.length := by omega
      show impl_KeyLess_l0_r a b _ _ _ _ = _
      unfold impl_KeyLess_l0_r
      rw [nI_lt hlt, cond_true, List.drop_eq_getElem_cons hlt]
      by_cases h1 : i < b.length
      · rw [nI_lt h1, cond_true, inb_nat hlt, cond_true, inb_nat h1, cond_true, List.drop_eq_getElem_cons h1, nth_nat _ _ _ hlt, nth_nat _ _ _ h1, cond_true, cond_true, implLess_eq, wi64_in (n := (i : Int) + 1) (by omega)]
        show (bif !veq a[i] b[i] then _ else _) = k (bif veq a[i] b[i] then _ else _)
        cases veq a[i] b[i]
        · rfl
        · exact ih (i + 1) n (by omega) (by omega) (by omega)
      · have : i = b.length := by omega
        subst this
        rw [nI_ge, cond_false, List.drop_length]
        show k (decide (nI a.length < nI b.length)) = _
        rw [decide_eq_false (show ¬ nI a.length < nI b.length by unfold nI; omega)]
        rfl
  exact key a.length 0 FUEL (by omega) (FUEL_lt (by omega)) (by omega)

/-! ### rows of a table -/
theorem specRows_eq (t : T) (h : msr yT t ≤ 1048576) (l : List (List V)) (k : Bool → Res) : spec_RowsOk t l k = k (rowsB t l) := by
  obtain ⟨m1, m2, m3, m4, m5⟩ := msr_T h
  unfold spec_RowsOk rowsB
  rw [specTab_eq t h]
  cases ht : tabB t
  · rfl
  · rw [Bool.not_true, cond_false, Bool.true_and]
    by_cases h6 : l.length ≤ 60
    · rw [decide_eq_false (show ¬ nI l.length > 60 by unfold nI; omega), cond_false, decide_eq_true h6, Bool.true_and]
      unfold spec_RowsOk_l0
      have := anyP_loop l (fun i => i) (fun i r => !rowB t.2.1 r || (decide (0 < i) && !klt (keyV t (nth [] l ((i : Int) - 1))) (keyV t r))) (fun i => ∀ (j : Nat) (hj : j < l.length), j < i → rowB t.2.1 l[j] = true) (step := spec_RowsOk_l0_s l l (nI l.length) t) ((fun (_ : Unit) => k true), (fun (_ : Unit) => k false)) (k true) (k false) (by unfold LIM; omega) (fun j _ hj => absurd hj (by omega)) (fun i hi hp hb j hj hji => by
        rw [Bool.or_eq_false_iff, Bool.not_eq_false'] at hb
        by_cases hji' : j < i
        · exact hp j hj hji'
        · have : j = i := by omega
          subst this
          exact hb.1) (fun i rec hi hp => by
        show spec_RowsOk_l0_r l _ _ t _ _ _ _ = _
        unfold spec_RowsOk_l0_r
        rw [nI_lt hi, cond_true, inb_nat hi, cond_true, nth_nat _ _ _ hi, specRow_eq t h]
        rw [ht, Bool.true_and]
        cases hr : rowB t.2.1 l[i]
        · rfl
        · rw [Bool.not_true, cond_false, Bool.false_or, wi64_in (n := (i : Int) + 1) (by omega)]
          by_cases h0 : 0 < i
          · have hi' : i - 1 < l.length := by omega
            have he : ((i : Int) - 1) = ((i - 1 : Nat) : Int) := by omega
            rw [decide_eq_true (show (i : Int) > 0 by omega), cond_true, decide_eq_true h0, Bool.true_and, wi64_in (n := (i : Int) - 1) (by omega), he, inb_nat hi', cond_true, nth_nat _ _ _ hi', specKey_eq t h ht _ (rowB_len (hp _ hi' (by omega))), specKey_eq t h ht _ (rowB_len hr), specKeyLess_eq _ _ (by rw [keyV_len]; unfold LIM; omega)]
          · rw [decide_eq_false (show ¬ (i : Int) > 0 by omega), cond_false, decide_eq_false h0, Bool.false_and, cond_false]) (fun rec => by
        show spec_RowsOk_l0_r l _ _ t _ _ _ _ = _
        unfold spec_RowsOk_l0_r
        rw [nI_ge, cond_false])
      refine this.trans ?_
      cases anyI (fun i r => !rowB t.2.1 r || (decide (0 < i) && !klt (keyV t (nth [] l ((i : Int) - 1))) (keyV t r))) 0 l <;> rfl
    · rw [decide_eq_true (show nI l.length > 60 by unfold nI; omega), cond_true, decide_eq_false h6, Bool.false_and]
theorem implRows_eq (t : T) (h : msr yT t ≤ 1048576) (l : List (List V)) (k : Bool → Res) : impl_RowsOk t l k = k (rowsB t l) := by
  obtain ⟨m1, m2, m3, m4, m5⟩ := msr_T h
  unfold impl_RowsOk rowsB
  rw [implTab_eq t h]
  cases ht : tabB t
  · rfl
  · rw [Bool.not_true, cond_false, Bool.true_and]
    by_cases h6 : l.length ≤ 60
    · rw [decide_eq_false (show ¬ nI l.length > 60 by unfold nI; omega), cond_false, decide_eq_true h6, Bool.true_and]
      unfold impl_RowsOk_l0
      have := anyP_loop l (fun i => i) (fun i r => !rowB t.2.1 r || (decide (0 < i) && !klt (keyV t (nth [] l ((i : Int) - 1))) (keyV t r))) (fun i => ∀ (j : Nat) (hj : j < l.length), j < i → rowB t.2.1 l[j] = true) (step := impl_RowsOk_l0_s l l (nI l.length) t) ((fun (_ : Unit) => k true), (fun (_ : Unit) => k false)) (k true) (k false) (by unfold LIM; omega) (fun j _ hj => absurd hj (by omega)) (fun i hi hp hb j hj hji => by
        rw [Bool.or_eq_false_iff, Bool.not_eq_false'] at hb
        by_cases hji' : j < i
        · exact hp j hj hji'
        · have : j = i := by omega
          subst this
          exact hb.1) (fun i rec hi hp => by
        show impl_RowsOk_l0_r l _ _ t _ _ _ _ = _
        unfold impl_RowsOk_l0_r
        rw [nI_lt hi, cond_true, inb_nat hi, cond_true, nth_nat _ _ _ hi, implRow_eq t h]
        cases hr : rowB t.2.1 l[i]
        · rfl
        · rw [Bool.not_true, cond_false, Bool.false_or, wi64_in (n := (i : Int) + 1) (by omega)]
          by_cases h0 : 0 < i
          · have hi' : i - 1 < l.length := by omega
            have he : ((i : Int) - 1) = ((i - 1 : Nat) : Int) := by omega
            rw [decide_eq_true (show (i : Int) > 0 by omega), cond_true, decide_eq_true h0, Bool.true_and, wi64_in (n := (i : Int) - 1) (by omega), he, inb_nat hi', cond_true, nth_nat _ _ _ hi', implKey_eq t h ht _ (rowB_len (hp _ hi' (by omega))), implKey_eq t h ht _ (rowB_len hr), implKeyLess_eq _ _ (by rw [keyV_len]; unfold LIM; omega)]
          · rw [decide_eq_false (show ¬ (i : Int) > 0 by omega), cond_false, decide_eq_false h0, Bool.false_and, cond_false]) (fun rec => by
        show impl_RowsOk_l0_r l _ _ t _ _ _ _ = _
        unfold impl_RowsOk_l0_r
        rw [nI_ge, cond_false])
      refine this.trans ?_
      cases anyI (fun i r => !rowB t.2.1 r || (decide (0 < i) && !klt (keyV t (nth [] l ((i : Int) - 1))) (keyV t r))) 0 l <;> rfl
    · rw [decide_eq_true (show nI l.length > 60 by unfold nI; omega), cond_true, decide_eq_false h6, Bool.false_and]
theorem rowsB_parts {t : T} {l : List (List V)} (h : rowsB t l = true) : tabB t = true ∧ l.length ≤ 60 ∧ ∀ r ∈ l, rowB t.2.1 r = true := by
  unfold rowsB at h
  simp only [Bool.and_eq_true, decide_eq_true_eq, Bool.not_eq_true'] at h
  refine ⟨h.1, h.2.1, fun r hr => ?_⟩
  obtain ⟨i, hi, rfl⟩ := List.getElem_of_mem hr
  have := anyI_false l 0 h.2.2 i hi
  simp only [Bool.or_eq_false_iff, Bool.not_eq_false'] at this
  exact this.1
end Go.PI.G
