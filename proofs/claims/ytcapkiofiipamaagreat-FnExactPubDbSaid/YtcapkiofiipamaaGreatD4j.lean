/-
  Printed texts and plain laws. No conditions.
-/
import Derived.Test.YtcapkiofiipamaaGreatD4b
import Derived.Test.YtcapkiofiipamaaGreatD4i
import Derived.Test.YtcapkiofiipamaaGreatD4c
import Derived.Test.YtcapkiofiipamaaGreatD4d
set_option linter.unusedVariables false
set_option linter.unusedSimpArgs false
namespace Go.PI.G
open Go Go.PI Go.Proofs

theorem bt_get (s : ByteArray) (i : Nat) (h : i < (toBytes s).length) : bt s (i : Int) = (toBytes s)[i] := by
  have hl := toBytes_len s
  have h' : i < s.data.size := by
    have : i < s.size := by omega
    exact this
  have e1 : (toBytes s)[i] = ((s.data.toList.map fun b : UInt8 => (b.toNat : Int))[i]'(by simpa using h')) := rfl
  rw [e1, List.getElem_map]
  unfold bt
  simp [Array.getElem?_eq_getElem h']
theorem word_end (s : ByteArray) (x : Bool) (k : Bool → Res) : (bif x then k false else (bif decide ((nI (ByteArray.size s)) ≥ 1) then k (decide ((nI (ByteArray.size s)) ≤ 8)) else k false)) = k (!x && (decide (1 ≤ s.size) && decide (s.size ≤ 8))) := by
  cases x
  · unfold nI
    by_cases h1 : 1 ≤ s.size
    · rw [cond_false, decide_eq_true (show (s.size : Int) ≥ 1 by omega), cond_true, decide_eq_true h1]
      congr 1
      by_cases h2 : s.size ≤ 8
      · rw [decide_eq_true (show (s.size : Int) ≤ 8 by omega), decide_eq_true h2]; rfl
      · rw [decide_eq_false (show ¬ (s.size : Int) ≤ 8 by omega), decide_eq_false h2]; rfl
    · rw [cond_false, decide_eq_false (show ¬ (s.size : Int) ≥ 1 by omega), cond_false, decide_eq_false h1]; rfl
  · rfl
theorem specWord_eq (s : ByteArray) (h : s.size ≤ LIM) (k : Bool → Res) : spec_WordOk s k = k (wordB s) := by
  unfold spec_WordOk spec_WordOk_l0
  have hl := toBytes_len s
  have := any_loop (toBytes s) (fun i => i) (fun b => decide (b < 97) || decide (b > 122)) (step := spec_WordOk_l0_s s) ((fun (_ : Unit) => bif decide ((nI (ByteArray.size s)) ≥ 1) then k (decide ((nI (ByteArray.size s)) ≤ 8)) else k false), (fun (_ : Unit) => k false)) (bif decide ((nI (ByteArray.size s)) ≥ 1) then k (decide ((nI (ByteArray.size s)) ≤ 8)) else k false) (k false) (by omega) (fun i rec hi => by
    show spec_WordOk_l0_r s _ _ _ _ = _
    unfold spec_WordOk_l0_r
    unfold LIM at h
    have hi' : i < s.size := by omega
    rw [nI_lt hi', cond_true, inb_nat hi', cond_true, cond_true, bt_get s i hi, wi64_in (n := (i : Int) + 1) (by omega)]
    cases decide ((toBytes s)[i] < 97)
    · cases decide ((toBytes s)[i] > 122) <;> rfl
    · rfl) (fun rec => by
    show spec_WordOk_l0_r s _ _ _ _ = _
    unfold spec_WordOk_l0_r
    rw [hl, nI_ge, cond_false])
  refine this.trans ?_
  exact word_end s _ k
theorem implWord_eq (s : ByteArray) (h : s.size ≤ LIM) (k : Bool → Res) : impl_WordOk s k = k (wordB s) := by
  unfold impl_WordOk impl_WordOk_l0
  have hl := toBytes_len s
  have := any_loop (toBytes s) (fun i => i) (fun b => decide (b < 97) || decide (b > 122)) (step := impl_WordOk_l0_s s) ((fun (_ : Unit) => impl_within (nI (ByteArray.size s)) 1 8 fun (r : Bool) => k r), (fun (_ : Unit) => k false)) (impl_within (nI (ByteArray.size s)) 1 8 fun (r : Bool) => k r) (k false) (by omega) (fun i rec hi => by
    show impl_WordOk_l0_r s _ _ _ _ = _
    unfold impl_WordOk_l0_r
    unfold LIM at h
    have hi' : i < s.size := by omega
    rw [nI_lt hi', cond_true, inb_nat hi', cond_true, cond_true, bt_get s i hi, wi64_in (n := (i : Int) + 1) (by omega)]
    cases decide ((toBytes s)[i] < 97)
    · cases decide ((toBytes s)[i] > 122) <;> rfl
    · rfl) (fun rec => by
    show impl_WordOk_l0_r s _ _ _ _ = _
    unfold impl_WordOk_l0_r
    rw [hl, nI_ge, cond_false])
  refine this.trans ?_
  rw [within_eq]
  have hd : decide (1 ≤ nI s.size ∧ nI s.size ≤ 8) = (decide (1 ≤ s.size) && decide (s.size ≤ 8)) := by
    rw [← Bool.decide_and]
    exact decide_eq_decide.2 (by unfold nI; omega)
  rw [hd]
  unfold wordB
  cases (toBytes s).any fun b => decide (b < 97) || decide (b > 122) <;> rfl

theorem specLess_eq (a b : V) (k : Bool → Res) : spec_ValLess a b k = k (vlt a b) := by
  unfold spec_ValLess vlt
  rw [specVal_eq, specVal_eq]
  cases valB a
  · rfl
  · cases valB b
    · rfl
    · rw [Bool.not_true, cond_false, cond_false, Bool.true_and, Bool.true_and]
      cases a.1 != b.1
      · rw [cond_false, cond_false]
        by_cases h : a.2.1 = b.2.1
        · rw [h, bne_f, cond_false, decide_eq_false (by omega), cond_false, beq_self_eq_true, cond_true]
        · have h1 : (a.2.1 != b.2.1) = true := by simp [h]
          have h2 : (a.2.1 == b.2.1) = false := by simp [h]
          rw [h1, h2, cond_true, cond_false]
          cases decide (a.2.1 < b.2.1) <;> rfl
      · rfl
theorem implLess_eq (a b : V) (k : Bool → Res) : impl_ValLess a b k = k (vlt a b) := by
  unfold impl_ValLess vlt
  rw [implVal_eq, implVal_eq]
  cases valB a
  · rfl
  · cases valB b
    · rfl
    · rw [Bool.not_true, cond_false, cond_false, Bool.true_and, Bool.true_and]
      cases a.1 != b.1
      · rw [cond_false, cond_false]
        cases a.2.1 != b.2.1 <;> rfl
      · rfl

/-! ### columns -/
theorem specCol_eq (c : C) (h : c.1.size ≤ LIM) (k : Bool → Res) : spec_ColOk c k = k (colB c) := by
  obtain ⟨n, ty, nt, hs, df⟩ := c
  unfold spec_ColOk colB
  dsimp only at h ⊢
  rw [specWord_eq n h, specVal_eq]
  cases wordB n
  · rfl
  · rw [Bool.not_true, cond_false, Bool.true_and]
    by_cases h1 : 1 ≤ ty ∧ ty ≤ 3
    · rw [decide_eq_false (show ¬ ty < 1 by omega), cond_false, decide_eq_false (show ¬ ty > 3 by omega), cond_false, decide_eq_true h1, Bool.true_and]
      cases hs
      · rw [Bool.not_false, cond_true, cond_false]
        have : valB df = false → nullB df = false := fun hv => by
          cases hn : nullB df with
          | false => rfl
          | true =>
            unfold nullB at hn
            simp only [Bool.and_eq_true, beq_iff_eq, sEq_iff] at hn
            have : df = (0, 0, eS) := by
              obtain ⟨a, b, c⟩ := df
              simp only at hn
              rw [hn.1, hn.2.1, hn.2.2]
            rw [this, valB_null] at hv
            cases hv
        cases hv : valB df
        · rw [Bool.false_and]
          exact congrArg k (this hv)
        · rfl
      · rw [Bool.not_true, cond_false, cond_true]
        cases hv : valB df
        · rfl
        · rw [cond_true, Bool.true_and]
          have hnull : (df.1 == 0) = true → ((df.1 == 0) && ((df.2.1 == 0) && sEq df.2.2 eS)) = true := fun h0 => by
            rcases valB_cases hv with rfl | ⟨m, _, rfl⟩ | ⟨m, _, rfl⟩ | ⟨m, _, rfl⟩
            · exact nullB_null
            · cases h0
            · cases h0
            · cases h0
          cases h0 : df.1 == 0
          · rw [Bool.false_and, cond_false]
            cases df.1 == ty <;> rfl
          · have := hnull h0
            rw [h0] at this
            rw [this, cond_true, cond_true]
            have hty : (df.1 == ty) = false := by
              simp only [beq_iff_eq] at h0
              rw [h0]; simp; omega
            rw [hty, Bool.false_or, Bool.true_and]
    · rw [decide_eq_false h1]
      by_cases h2 : ty < 1
      · rw [decide_eq_true h2]; rfl
      · rw [decide_eq_false h2, cond_false, decide_eq_true (show ty > 3 by omega)]; rfl
theorem implCol_eq (c : C) (h : c.1.size ≤ LIM) (k : Bool → Res) : impl_ColOk c k = k (colB c) := by
  obtain ⟨n, ty, nt, hs, df⟩ := c
  unfold impl_ColOk colB
  dsimp only at h ⊢
  rw [implWord_eq n h, within_eq, implVal_eq]
  cases wordB n
  · rfl
  · cases decide (1 ≤ ty ∧ ty ≤ 3)
    · rfl
    · cases valB df
      · rfl
      · cases hs
        · rfl
        · cases df.1 == ty
          · cases df.1 == 0 <;> rfl
          · rfl

theorem specAt_eq (t : T) (n : ByteArray) (h : t.2.1.length ≤ LIM) (k : Int → Res) : spec_ColAt t n k = k (colAt t.2.1 n) := by
  unfold spec_ColAt spec_ColAt_l0
  refine find_loop t.2.1 (fun i => i) (fun c => sEq c.1 n) (step := spec_ColAt_l0_s n t.2.1 (nI t.2.1.length)) _ k h (fun i rec hi => ?_) (fun rec => ?_)
  · show spec_ColAt_l0_r n _ _ _ _ _ _ = _
    unfold spec_ColAt_l0_r
    unfold LIM at h
    rw [nI_lt hi, cond_true, inb_nat hi, cond_true, nth_nat _ _ _ hi, wi64_in (n := (i : Int) + 1) (by omega)]
  · show spec_ColAt_l0_r n _ _ _ _ _ _ = _
    unfold spec_ColAt_l0_r
    rw [nI_ge, cond_false]
theorem implAt_eq (t : T) (n : ByteArray) (h : t.2.1.length ≤ LIM) (k : Int → Res) : impl_ColAt t n k = k (colAt t.2.1 n) := by
  unfold impl_ColAt slices_IndexFunc_Col slices_IndexFunc_Col_l0
  refine find_loop t.2.1 (fun i => i) (fun c => sEq c.1 n) (step := slices_IndexFunc_Col_l0_s t.2.1 n (nI t.2.1.length)) _ k h (fun i rec hi => ?_) (fun rec => ?_)
  · show slices_IndexFunc_Col_l0_r _ n _ _ _ _ _ = _
    unfold slices_IndexFunc_Col_l0_r impl_ColAt1
    unfold LIM at h
    rw [nI_lt hi, cond_true, inb_nat hi, cond_true, nth_nat _ _ _ hi, wi64_in (n := (i : Int) + 1) (by omega)]
  · show slices_IndexFunc_Col_l0_r _ n _ _ _ _ _ = _
    unfold slices_IndexFunc_Col_l0_r
    rw [nI_ge, cond_false]

/-! ### tables -/
theorem msr_T {t : T} (h : msr yT t ≤ 1048576) : t.1.size ≤ 1048576 ∧ t.2.1.length ≤ 1048576 ∧ t.2.2.length ≤ 1048576 ∧ (∀ c ∈ t.2.1, c.1.size ≤ 1048576) ∧ ∀ x ∈ t.2.2, x.size ≤ 1048576 := by
  have h1 : msr yT t = t.1.size + (msr (.slice yC) t.2.1 + msr (.slice .str) t.2.2) := rfl
  have h2 : msr (.slice yC) t.2.1 ≤ 1048576 := by omega
  have h3 : msr (.slice .str) t.2.2 ≤ 1048576 := by omega
  refine ⟨by omega, msr_len h2, msr_len h3, fun c hc => ?_, fun x hx => msr_mem h3 hx⟩
  have := msr_mem h2 hc
  have h4 : msr yC c = c.1.size + msr (.pair (.int .i64) (.pair .bool (.pair .bool yV))) c.2 := rfl
  omega

theorem specCols_loop (t : T) (h : msr yT t ≤ 1048576) (a b : Unit → Res) : spec_TableOk_l1 t.2.1 (nI t.2.1.length) t FUEL 0 a b = bif colsB t.2.1 then a () else b () := by
  obtain ⟨m1, m2, m3, m4, m5⟩ := msr_T h
  unfold spec_TableOk_l1
  have := anyI_loop t.2.1 (fun i => i) (fun i c => !colB c || (colAt t.2.1 c.1 != (i : Int))) (step := spec_TableOk_l1_s t.2.1 (nI t.2.1.length) t) (a, b) (a ()) (b ()) (by unfold LIM; omega) (fun i rec hi => by
    show spec_TableOk_l1_r _ _ t _ _ _ _ = _
    unfold spec_TableOk_l1_r
    rw [nI_lt hi, cond_true, inb_nat hi, cond_true, nth_nat _ _ _ hi, specCol_eq _ (by have := m4 _ (List.getElem_mem hi); unfold LIM; omega), specAt_eq t _ (by unfold LIM; omega), wi64_in (n := (i : Int) + 1) (by omega)]
    cases colB t.2.1[i]
    · rfl
    · cases colAt t.2.1 t.2.1[i].1 != (i : Int) <;> rfl) (fun rec => by
    show spec_TableOk_l1_r _ _ t _ _ _ _ = _
    unfold spec_TableOk_l1_r
    rw [nI_ge, cond_false])
  refine this.trans ?_
  unfold colsB
  cases anyI (fun i c => !colB c || (colAt t.2.1 c.1 != (i : Int))) 0 t.2.1 <;> rfl
theorem implCols_loop (t : T) (h : msr yT t ≤ 1048576) (a b : Unit → Res) : impl_TableOk_l0 t.2.1 (nI t.2.1.length) t FUEL 0 a b = bif colsB t.2.1 then a () else b () := by
  obtain ⟨m1, m2, m3, m4, m5⟩ := msr_T h
  unfold impl_TableOk_l0
  have := anyI_loop t.2.1 (fun i => i) (fun i c => !colB c || (colAt t.2.1 c.1 != (i : Int))) (step := impl_TableOk_l0_s t.2.1 (nI t.2.1.length) t) (a, b) (a ()) (b ()) (by unfold LIM; omega) (fun i rec hi => by
    show impl_TableOk_l0_r _ _ t _ _ _ _ = _
    unfold impl_TableOk_l0_r
    rw [nI_lt hi, cond_true, inb_nat hi, cond_true, nth_nat _ _ _ hi, implCol_eq _ (by have := m4 _ (List.getElem_mem hi); unfold LIM; omega), implAt_eq t _ (by unfold LIM; omega), wi64_in (n := (i : Int) + 1) (by omega)]
    cases colB t.2.1[i]
    · rfl
    · cases colAt t.2.1 t.2.1[i].1 != (i : Int) <;> rfl) (fun rec => by
    show impl_TableOk_l0_r _ _ t _ _ _ _ = _
    unfold impl_TableOk_l0_r
    rw [nI_ge, cond_false])
  refine this.trans ?_
  unfold colsB
  cases anyI (fun i c => !colB c || (colAt t.2.1 c.1 != (i : Int))) 0 t.2.1 <;> rfl

def keyStep (l : List C) (last : Int) (k : ByteArray) : Except Unit Int := bif decide (colAt l k ≤ last) then .error () else bif !(nth zC l (colAt l k)).2.2.1 then .error () else .ok (colAt l k)
theorem keys_walk (l : List C) : (ks : List ByteArray) → (i : Nat) → (last : Int) → (∃ z, walkL (fun _ last k => keyStep l last k) i ks last = .ok z ∧ keysUp l last ks = true) ∨ (walkL (fun _ last k => keyStep l last k) i ks last = .error () ∧ keysUp l last ks = false)
  | [], _, last => .inl ⟨last, rfl, rfl⟩
  | k :: ks, i, last => by
    have ih := keys_walk l ks (i + 1) (colAt l k)
    simp only [walkL, keysUp, keyStep] at ih ⊢
    cases decide (colAt l k ≤ last)
    · cases (nth zC l (colAt l k)).2.2.1
      · exact .inr ⟨rfl, rfl⟩
      · exact ih
    · exact .inr ⟨rfl, rfl⟩
theorem specKeys_loop (t : T) (h : msr yT t ≤ 1048576) (a b : Unit → Res) : spec_TableOk_l2 t.2.2 (nI t.2.2.length) t FUEL (-1) 0 a b = bif keysUp t.2.1 (-1) t.2.2 then a () else b () := by
  obtain ⟨m1, m2, m3, m4, m5⟩ := msr_T h
  unfold spec_TableOk_l2
  have := walk_loop t.2.2 (fun i last => (last, i)) (fun _ last k => keyStep t.2.1 last k) (fun _ last => -1 ≤ last) (step := spec_TableOk_l2_s t.2.2 (nI t.2.2.length) t) (a, b) (fun _ => a ()) (fun _ => b ()) (-1) (by unfold LIM; omega) (by omega) (fun i last last' hi h0 hk => by
    unfold keyStep at hk
    have := (colAt_range t.2.1 t.2.2[i]).1
    cases h1 : decide (colAt t.2.1 t.2.2[i] ≤ last)
    · rw [h1, cond_false] at hk
      cases h2 : (nth zC t.2.1 (colAt t.2.1 t.2.2[i])).2.2.1
      · rw [h2] at hk; cases hk
      · rw [h2] at hk
        cases hk
        exact this
    · rw [h1] at hk; cases hk) (fun i last rec hi h0 => by
    show spec_TableOk_l2_r _ _ t _ _ _ _ _ = _
    unfold spec_TableOk_l2_r
    dsimp only
    rw [nI_lt hi, cond_true, inb_nat hi, cond_true, nth_nat _ _ _ hi, specAt_eq t _ (by unfold LIM; omega), wi64_in (n := (i : Int) + 1) (by omega)]
    unfold keyStep
    by_cases h1 : colAt t.2.1 t.2.2[i] ≤ last
    · rw [decide_eq_true h1]; rfl
    · have hr := (colAt_range t.2.1 t.2.2[i]).2
      rw [decide_eq_false h1, cond_false, cond_false, inb_of (by omega) hr, cond_true]
      cases (nth zC t.2.1 (colAt t.2.1 t.2.2[i])).2.2.1 <;> rfl) (fun last rec _ => by
    show spec_TableOk_l2_r _ _ t _ _ _ _ _ = _
    unfold spec_TableOk_l2_r
    dsimp only
    rw [nI_ge, cond_false])
  refine this.trans ?_
  rcases keys_walk t.2.1 t.2.2 0 (-1) with ⟨z, h1, h2⟩ | ⟨h1, h2⟩ <;> rw [h1, h2] <;> rfl
theorem implKeys_loop (t : T) (h : msr yT t ≤ 1048576) (a b : Unit → Res) : impl_TableOk_l1 t.2.2 (nI t.2.2.length) t FUEL (-1) 0 a b = bif keysUp t.2.1 (-1) t.2.2 then a () else b () := by
  obtain ⟨m1, m2, m3, m4, m5⟩ := msr_T h
  unfold impl_TableOk_l1
  have := walk_loop t.2.2 (fun i last => (last, i)) (fun _ last k => keyStep t.2.1 last k) (fun _ last => -1 ≤ last) (step := impl_TableOk_l1_s t.2.2 (nI t.2.2.length) t) (a, b) (fun _ => a ()) (fun _ => b ()) (-1) (by unfold LIM; omega) (by omega) (fun i last last' hi h0 hk => by
    unfold keyStep at hk
    have := (colAt_range t.2.1 t.2.2[i]).1
    cases h1 : decide (colAt t.2.1 t.2.2[i] ≤ last)
    · rw [h1, cond_false] at hk
      cases h2 : (nth zC t.2.1 (colAt t.2.1 t.2.2[i])).2.2.1
      · rw [h2] at hk; cases hk
      · rw [h2] at hk
        cases hk
        exact this
    · rw [h1] at hk; cases hk) (fun i last rec hi h0 => by
    show impl_TableOk_l1_r _ _ t _ _ _ _ _ = _
    unfold impl_TableOk_l1_r
    dsimp only
    rw [nI_lt hi, cond_true, inb_nat hi, cond_true, nth_nat _ _ _ hi, implAt_eq t _ (by unfold LIM; omega), wi64_in (n := (i : Int) + 1) (by omega)]
    unfold keyStep
    by_cases h1 : colAt t.2.1 t.2.2[i] ≤ last
    · rw [decide_eq_true h1]; rfl
    · have hr := (colAt_range t.2.1 t.2.2[i]).2
      rw [decide_eq_false h1, cond_false, cond_false, inb_of (by omega) hr, cond_true]
      cases (nth zC t.2.1 (colAt t.2.1 t.2.2[i])).2.2.1 <;> rfl) (fun last rec _ => by
    show impl_TableOk_l1_r _ _ t _ _ _ _ _ = _
    unfold impl_TableOk_l1_r
    dsimp only
    rw [nI_ge, cond_false])
  refine this.trans ?_
  rcases keys_walk t.2.1 t.2.2 0 (-1) with ⟨z, h1, h2⟩ | ⟨h1, h2⟩ <;> rw [h1, h2] <;> rfl
theorem tab_head (t : T) (k : Bool → Res) : spec_TableOk_p0 t k = spec_WordOk t.1 fun w => k (!(w && (decide (1 ≤ t.2.1.length) && (decide (t.2.1.length ≤ 8) && decide (1 ≤ t.2.2.length))))) := by
  unfold spec_TableOk_p0
  congr 1
  funext w
  unfold nI
  cases w
  · rfl
  · rw [Bool.not_true, cond_false, Bool.true_and]
    by_cases h1 : 1 ≤ t.2.1.length
    · rw [decide_eq_false (show ¬ (t.2.1.length : Int) < 1 by omega), cond_false, decide_eq_true h1, Bool.true_and]
      by_cases h2 : t.2.1.length ≤ 8
      · rw [decide_eq_false (show ¬ (t.2.1.length : Int) > 8 by omega), cond_false, decide_eq_true h2, Bool.true_and]
        congr 1
        by_cases h3 : 1 ≤ t.2.2.length
        · rw [decide_eq_false (show ¬ (t.2.2.length : Int) < 1 by omega), decide_eq_true h3]; rfl
        · rw [decide_eq_true (show (t.2.2.length : Int) < 1 by omega), decide_eq_false h3]; rfl
      · rw [decide_eq_true (show (t.2.1.length : Int) > 8 by omega), decide_eq_false h2]; rfl
    · rw [decide_eq_true (show (t.2.1.length : Int) < 1 by omega), decide_eq_false h1]; rfl
theorem specTab_eq (t : T) (h : msr yT t ≤ 1048576) (k : Bool → Res) : spec_TableOk t k = k (tabB t) := by
  obtain ⟨m1, m2, m3, m4, m5⟩ := msr_T h
  unfold spec_TableOk tabB
  rw [tab_head, specWord_eq _ (by unfold LIM; omega), specCols_loop t h, specKeys_loop t h]
  cases wordB t.1 && (decide (1 ≤ t.2.1.length) && (decide (t.2.1.length ≤ 8) && decide (1 ≤ t.2.2.length)))
  · rfl
  · cases colsB t.2.1
    · rfl
    · cases keysUp t.2.1 (-1) t.2.2 <;> rfl
theorem implTab_eq (t : T) (h : msr yT t ≤ 1048576) (k : Bool → Res) : impl_TableOk t k = k (tabB t) := by
  obtain ⟨m1, m2, m3, m4, m5⟩ := msr_T h
  unfold impl_TableOk tabB
  rw [implWord_eq _ (by unfold LIM; omega), within_eq, implCols_loop t h, implKeys_loop t h]
  have hd : decide (1 ≤ nI t.2.1.length ∧ nI t.2.1.length ≤ 8) = (decide (1 ≤ t.2.1.length) && decide (t.2.1.length ≤ 8)) := by
    rw [← Bool.decide_and]
    exact decide_eq_decide.2 (by unfold nI; omega)
  have hk : decide (nI t.2.2.length > 0) = decide (1 ≤ t.2.2.length) := decide_eq_decide.2 (by unfold nI; omega)
  rw [hd, hk]
  cases colsB t.2.1
  · rw [Bool.false_and, Bool.and_false]; rfl
  · cases keysUp t.2.1 (-1) t.2.2
    · rw [Bool.and_false, Bool.and_false]; rfl
    · cases wordB t.1
      · rfl
      · cases decide (1 ≤ t.2.1.length)
        · rfl
        · cases decide (t.2.1.length ≤ 8)
          · rfl
          · cases decide (1 ≤ t.2.2.length) <;> rfl

/-! ### catalogs -/
theorem cat_step (c : List T) (i : Nat) (hi : i < c.length) (hl : c.length ≤ LIM) (x : Res) (y : Res) : (bif decide ((i : Int) > 0) then (bif inb (wi64 ((i : Int) - 1)) c.length then (bif sGe (nth zT c (wi64 ((i : Int) - 1))).1 c[i].1 then x else y) else none) else y) =
    bif (decide (0 < i) && sGe (nth zT c ((i : Int) - 1)).1 c[i].1) then x else y := by
  by_cases h : 0 < i
  · unfold LIM at hl
    rw [decide_eq_true (show (i : Int) > 0 by omega), decide_eq_true h, cond_true, wi64_in (by omega), inb_of (by omega) (by omega), cond_true, Bool.true_and]
  · rw [decide_eq_false (show ¬ (i : Int) > 0 by omega), decide_eq_false h]; rfl
end Go.PI.G
namespace Go.PI.G
open Go Go.PI Go.Proofs

/-- Is there one that is bad, where the earlier ones are known to be good? -/
theorem anyP_loop {α V K : Type} (l : List α) (st : Int → V) (bad : Nat → α → Bool) (p : Nat → Prop) {step : V → (V → Res) → K → Res} (q : K) (fin ex : Res) (hN : l.length ≤ LIM) (h0 : p 0)
    (hp : ∀ (i : Nat), (hi : i < l.length) → p i → bad i l[i] = false → p (i + 1))
    (hs : ∀ (i : Nat) rec, (hi : i < l.length) → p i → step (st i) rec q = bif bad i l[i] then ex else rec (st ((i : Int) + 1))) (he : ∀ rec, step (st (l.length : Int)) rec q = fin) :
    iter step FUEL (st 0) q = bif anyI bad 0 l then ex else fin := by
  have h := walk_loop l (fun i (_ : Unit) => st i) (fun i _ x => if bad i x then .error () else (.ok () : Except Unit Unit)) (fun i _ => p i) q (fun _ => fin) (fun _ => ex) () hN h0 (fun i a a' hi hpi hf => by
      refine hp i hi hpi ?_
      cases hb : bad i l[i] with
      | false => rfl
      | true => rw [hb] at hf; cases hf)
    (fun i a rec hi hpi => by
      rw [hs i rec hi hpi]
      cases bad i l[i] <;> rfl) (fun a rec _ => he rec)
  rw [h]
  have : ∀ (l : List α) (i : Nat), walkL (fun i _ x => if bad i x then .error () else (.ok () : Except Unit Unit)) i l () = bif anyI bad i l then .error () else .ok () := by
    intro l
    induction l with
    | nil => intro i; rfl
    | cons x l ih =>
      intro i
      simp only [walkL, anyI]
      cases bad i x with
      | true => rfl
      | false => exact ih _
  rw [this]
  cases anyI bad 0 l <;> rfl

/-! ### rows -/
theorem specFits_eq (c : C) (hc : colB c = true) (v : V) (k : Bool → Res) : spec_l03Fits c v k = k (fits c v) := by
  have h1 := colB_ty hc
  unfold spec_l03Fits fits
  rw [specVal_eq, specVal_eq]
  cases h0 : v.1 == 0
  · cases valB v
    · rfl
    · rw [cond_false, cond_true, Bool.false_and, Bool.or_false, Bool.true_and]
  · have h2 : (v.1 == c.2.1) = false := by
      rw [beq_iff_eq] at h0
      simp; omega
    rw [h2, Bool.true_and, Bool.false_or]
    cases valB v <;> rfl
theorem implFits_eq (c : C) (v : V) (k : Bool → Res) : impl_stands c v k = k (fits c v) := by
  unfold impl_stands fits
  rw [implVal_eq]
  cases valB v
  · rfl
  · cases v.1 == c.2.1
    · cases v.1 == 0 <;> rfl
    · rfl
theorem specRow_eq (t : T) (h : msr yT t ≤ 1048576) (r : List V) (k : Bool → Res) : spec_RowOk t r k = k (tabB t && rowB t.2.1 r) := by
  obtain ⟨m1, m2, m3, m4, m5⟩ := msr_T h
  unfold spec_RowOk
  rw [specTab_eq t h]
  cases ht : tabB t
  · rfl
  · rw [Bool.not_true, cond_false, Bool.true_and]
    unfold rowB
    by_cases hl : r.length = t.2.1.length
    · have hb : (nI r.length != nI t.2.1.length) = false := by rw [hl, bne_f]
      rw [hb, cond_false, decide_eq_true hl, Bool.true_and]
      unfold spec_RowOk_l0
      have := anyI_loop t.2.1 (fun i => i) (fun i c => !fits c (nth zV r (i : Int))) (step := spec_RowOk_l0_s t.2.1 (nI t.2.1.length) r) ((fun (_ : Unit) => k true), (fun (_ : Unit) => k false)) (k true) (k false) (by unfold LIM; omega) (fun i rec hi => by
        show spec_RowOk_l0_r _ _ r _ _ _ _ = _
        unfold spec_RowOk_l0_r
        rw [nI_lt hi, cond_true, inb_nat hi, cond_true, inb_nat (hl ▸ hi), cond_true, nth_nat _ _ _ hi, specFits_eq _ (colsB_get (tabB_parts ht).2.2.2.2.1 i hi), wi64_in (n := (i : Int) + 1) (by omega)]) (fun rec => by
        show spec_RowOk_l0_r _ _ r _ _ _ _ = _
        unfold spec_RowOk_l0_r
        rw [nI_ge, cond_false])
      refine this.trans ?_
      cases anyI (fun i c => !fits c (nth zV r (i : Int))) 0 t.2.1 <;> rfl
    · have hb : (nI r.length != nI t.2.1.length) = true := by unfold nI; simp; omega
      rw [hb, cond_true, decide_eq_false hl, Bool.false_and]
theorem implRow_eq (t : T) (h : msr yT t ≤ 1048576) (r : List V) (k : Bool → Res) : impl_rowOk t r k = k (rowB t.2.1 r) := by
  obtain ⟨m1, m2, m3, m4, m5⟩ := msr_T h
  unfold impl_rowOk rowB
  by_cases hl : r.length = t.2.1.length
  · have hb : (nI r.length != nI t.2.1.length) = false := by rw [hl, bne_f]
    rw [hb, cond_false, decide_eq_true hl, Bool.true_and]
    unfold impl_rowOk_l0
    have := anyI_loop t.2.1 (fun i => i) (fun i c => !fits c (nth zV r (i : Int))) (step := impl_rowOk_l0_s r (nI r.length) t) ((fun (_ : Unit) => k true), (fun (_ : Unit) => k false)) (k true) (k false) (by unfold LIM; omega) (fun i rec hi => by
      show impl_rowOk_l0_r _ _ t _ _ _ _ = _
      unfold impl_rowOk_l0_r
      rw [hl, nI_lt hi, cond_true, inb_nat hi, cond_true, cond_true, nth_nat zC _ _ hi, implFits_eq, wi64_in (n := (i : Int) + 1) (by omega)]) (fun rec => by
      show impl_rowOk_l0_r _ _ t _ _ _ _ = _
      unfold impl_rowOk_l0_r
      rw [hl, nI_ge, cond_false])
    refine this.trans ?_
    cases anyI (fun i c => !fits c (nth zV r (i : Int))) 0 t.2.1 <;> rfl
  · have hb : (nI r.length != nI t.2.1.length) = true := by unfold nI; simp; omega
    rw [hb, cond_true, decide_eq_false hl, Bool.false_and]
theorem rowB_len {l : List C} {r : List V} (h : rowB l r = true) : r.length = l.length := by
  unfold rowB at h
  rw [Bool.and_eq_true, decide_eq_true_eq] at h
  exact h.1

/-! ### keys -/
theorem flat_one {α β : Type} (f : α → β) : (l : List α) → l.flatMap (fun x => [f x]) = l.map f
  | [] => rfl
  | x :: l => by rw [List.flatMap_cons, flat_one f l]; rfl
theorem keyV_len (t : T) (r : List V) : (keyV t r).length = t.2.2.length := by unfold keyV; simp
theorem specKey_eq (t : T) (h : msr yT t ≤ 1048576) (ht : tabB t = true) (r : List V) (hr : r.length = t.2.1.length) (k : List V → Res) : spec_l03Key t r k = k (keyV t r) := by
  obtain ⟨m1, m2, m3, m4, m5⟩ := msr_T h
  unfold spec_l03Key spec_l03Key_l0
  have hk := keysUp_range t.2.2 (-1) (by omega) (tabB_parts ht).2.2.2.2.2
  have := flat_loop t.2.2 (fun i out => (out, i)) (fun n => [nth zV r (colAt t.2.1 n)]) 1048576 [] (step := spec_l03Key_l0_s t.2.2 (nI t.2.2.length) t r) (fun out => k out) (fun out => k out) (by unfold LIM; omega) (fun i hi _ => by
    rw [flat_one, List.nil_append, List.length_map, List.length_take]; omega) (by simp) (fun i out rec hi ho _ => by
    show spec_l03Key_l0_r _ _ t r _ _ _ _ = _
    unfold spec_l03Key_l0_r
    have hk' := hk _ (List.getElem_mem hi)
    have hlo : out.length = i := by
      rw [ho, flat_one, List.nil_append, List.length_map, List.length_take]; omega
    dsimp only
    rw [nI_lt hi, cond_true, inb_nat hi, cond_true, nth_nat _ _ _ hi, specAt_eq t _ (by unfold LIM; omega), inb_of hk'.1 (by omega), cond_true, lim_of (by unfold LIM; omega), cond_true, wi64_in (n := (i : Int) + 1) (by omega)]) (fun out rec => by
    show spec_l03Key_l0_r _ _ t r _ _ _ _ = _
    unfold spec_l03Key_l0_r
    dsimp only
    rw [nI_ge, cond_false])
  refine this.trans ?_
  rw [flat_one, List.nil_append]
  rfl
theorem specKeyLess_eq (a b : List V) (ha : a.length ≤ LIM) (k : Bool → Res) : spec_KeyLess a b k = k (klt a b) := by
  unfold spec_KeyLess spec_KeyLess_l0
  unfold LIM at ha
  have key : ∀ (d i n : Nat), i + d = a.length → d < n → i ≤ b.length → iter (spec_KeyLess_l0_s a b) n (i : Int) ((fun (_ : Unit) => k (decide (nI a.length < nI b.length))), (fun (t : Bool) => k t)) = k (klt (a.drop i) (b.drop i)) := by
    intro d
    induction d with
    | zero =>
      intro i n hi hn hb
      obtain ⟨n, rfl⟩ : ∃ m, n = m + 1 := ⟨n - 1, by omega⟩
      have : i = a.length := by omega
      subst this
      show spec_KeyLess_l0_r a b _ _ _ _ = _
      unfold spec_KeyLess_l0_r
      rw [nI_ge, cond_false, List.drop_length]
      show k (decide (nI a.length < nI b.length)) = _
      by_cases h1 : a.length < b.length
      · rw [List.drop_eq_getElem_cons h1, decide_eq_true (show nI a.length < nI b.length by unfold nI; omega)]
        rfl
      · rw [List.drop_of_length_le (by omega), decide_eq_false (show ¬ nI a.length < nI b.length by unfold nI; omega)]
        rfl
    | succ d ih =>
      intro i n hi hn hb
      obtain ⟨n, rfl⟩ : ∃ m, n = m + 1 := ⟨n - 1, by omega⟩
      have hlt : i < a.length := by omega
      show spec_KeyLess_l0_r a b _ _ _ _ = _
      unfold spec_KeyLess_l0_r
      rw [nI_lt hlt, cond_true, List.drop_eq_getElem_cons hlt]
      by_cases h1 : i < b.length
      · rw [nI_lt h1, cond_true, inb_nat hlt, cond_true, inb_nat h1, cond_true, List.drop_eq_getElem_cons h1, nth_nat _ _ _ hlt, nth_nat _ _ _ h1, cond_true, cond_true, specLess_eq, wi64_in (n := (i : Int) + 1) (by omega)]
        show (bif !veq a[i] b[i] then _ else _) = k (bif veq a[i] b[i] then _ else _)
        cases veq a[i] b[i]
        · rfl
        · exact ih (i + 1) n (by omega) (by omega) (by omega)
      · have : i = b.length := by omega
        subst this
        rw [nI_ge, cond_false, List.drop_length]
        show k (decide (nI a.length < nI b.length)) = _
        rw [decide_eq_false (show ¬ nI a.length < nI b.length by unfold nI; omega)]
        rfl
  exact key a.length 0 FUEL (by omega) (FUEL_lt (by omega)) (by omega)
theorem implKey_eq (t : T) (h : msr yT t ≤ 1048576) (ht : tabB t = true) (r : List V) (hr : r.length = t.2.1.length) (k : List V → Res) : impl_keyOf t r k = k (keyV t r) := by
  obtain ⟨m1, m2, m3, m4, m5⟩ := msr_T h
  unfold impl_keyOf impl_keyOf_l0
  have hk := keysUp_range t.2.2 (-1) (by omega) (tabB_parts ht).2.2.2.2.2
  have := flat_loop t.2.2 (fun i out => (out, i)) (fun n => [nth zV r (colAt t.2.1 n)]) 1048576 [] (step := impl_keyOf_l0_s t.2.2 (nI t.2.2.length) t r) (fun out => k out) (fun out => k out) (by unfold LIM; omega) (fun i hi _ => by
    rw [flat_one, List.nil_append, List.length_map, List.length_take]; omega) (by simp) (fun i out rec hi ho _ => by
    show impl_keyOf_l0_r _ _ t r _ _ _ _ = _
    unfold impl_keyOf_l0_r
    have hk' := hk _ (List.getElem_mem hi)
    have hlo : out.length = i := by
      rw [ho, flat_one, List.nil_append, List.length_map, List.length_take]; omega
    dsimp only
    rw [nI_lt hi, cond_true, inb_nat hi, cond_true, nth_nat _ _ _ hi, implAt_eq t _ (by unfold LIM; omega), inb_of hk'.1 (by omega), cond_true, lim_of (by unfold LIM; omega), cond_true, wi64_in (n := (i : Int) + 1) (by omega)]) (fun out rec => by
    show impl_keyOf_l0_r _ _ t r _ _ _ _ = _
    unfold impl_keyOf_l0_r
    dsimp only
    rw [nI_ge, cond_false])
  refine this.trans ?_
  rw [flat_one, List.nil_append]
  rfl
theorem implKeyLess_eq (a b : List V) (ha : a.length ≤ LIM) (k : Bool → Res) : impl_KeyLess a b k = k (klt a b) := by
  unfold impl_KeyLess impl_KeyLess_l0
  unfold LIM at ha
  have key : ∀ (d i n : Nat), i + d = a.length → d < n → i ≤ b.length → iter (impl_KeyLess_l0_s a b) n (i : Int) ((fun (_ : Unit) => k (decide (nI a.length < nI b.length))), (fun (t : Bool) => k t)) = k (klt (a.drop i) (b.drop i)) := by
    intro d
    induction d with
    | zero =>
      intro i n hi hn hb
      obtain ⟨n, rfl⟩ : ∃ m, n = m + 1 := ⟨n - 1, by omega⟩
      have : i = a.length := by omega
      subst this
      show impl_KeyLess_l0_r a b _ _ _ _ = _
      unfold impl_KeyLess_l0_r
      rw [nI_ge, cond_false, List.drop_length]
      show k (decide (nI a.length < nI b.length)) = _
      by_cases h1 : a.length < b.length
      · rw [List.drop_eq_getElem_cons h1, decide_eq_true (show nI a.length < nI b.length by unfold nI; omega)]
        rfl
      · rw [List.drop_of_length_le (by omega), decide_eq_false (show ¬ nI a.length < nI b.length by unfold nI; omega)]
        rfl
    | succ d ih =>
      intro i n hi hn hb
      obtain ⟨n, rfl⟩ : ∃ m, n = m + 1 := ⟨n - 1, by omega⟩
      have hlt : i < a.length := by omega
      show impl_KeyLess_l0_r a b _ _ _ _ = _
      unfold impl_KeyLess_l0_r
      rw [nI_lt hlt, cond_true, List.drop_eq_getElem_cons hlt]
      by_cases h1 : i < b.length
      · rw [nI_lt h1, cond_true, inb_nat hlt, cond_true, inb_nat h1, cond_true, List.drop_eq_getElem_cons h1, nth_nat _ _ _ hlt, nth_nat _ _ _ h1, cond_true, cond_true, implLess_eq, wi64_in (n := (i : Int) + 1) (by omega)]
        show (bif !veq a[i] b[i] then _ else _) = k (bif veq a[i] b[i] then _ else _)
        cases veq a[i] b[i]
        · rfl
        · exact ih (i + 1) n (by omega) (by omega) (by omega)
      · have : i = b.length := by omega
        subst this
        rw [nI_ge, cond_false, List.drop_length]
        show k (decide (nI a.length < nI b.length)) = _
        rw [decide_eq_false (show ¬ nI a.length < nI b.length by unfold nI; omega)]
        rfl
  exact key a.length 0 FUEL (by omega) (FUEL_lt (by omega)) (by omega)

/-! ### rows of a table -/
theorem specRows_eq (t : T) (h : msr yT t ≤ 1048576) (l : List (List V)) (k : Bool → Res) : spec_RowsOk t l k = k (rowsB t l) := by
  obtain ⟨m1, m2, m3, m4, m5⟩ := msr_T h
  unfold spec_RowsOk rowsB
  rw [specTab_eq t h]
  cases ht : tabB t
  · rfl
  · rw [Bool.not_true, cond_false, Bool.true_and]
    by_cases h6 : l.length ≤ 60
    · rw [decide_eq_false (show ¬ nI l.length > 60 by unfold nI; omega), cond_false, decide_eq_true h6, Bool.true_and]
      unfold spec_RowsOk_l0
      have := anyP_loop l (fun i => i) (fun i r => !rowB t.2.1 r || (decide (0 < i) && !klt (keyV t (nth [] l ((i : Int) - 1))) (keyV t r))) (fun i => ∀ (j : Nat) (hj : j < l.length), j < i → rowB t.2.1 l[j] = true) (step := spec_RowsOk_l0_s l l (nI l.length) t) ((fun (_ : Unit) => k true), (fun (_ : Unit) => k false)) (k true) (k false) (by unfold LIM; omega) (fun j _ hj => absurd hj (by omega)) (fun i hi hp hb j hj hji => by
        rw [Bool.or_eq_false_iff, Bool.not_eq_false'] at hb
        by_cases hji' : j < i
        · exact hp j hj hji'
        · have : j = i := by omega
          subst this
          exact hb.1) (fun i rec hi hp => by
        show spec_RowsOk_l0_r l _ _ t _ _ _ _ = _
        unfold spec_RowsOk_l0_r
        rw [nI_lt hi, cond_true, inb_nat hi, cond_true, nth_nat _ _ _ hi, specRow_eq t h]
        rw [ht, Bool.true_and]
        cases hr : rowB t.2.1 l[i]
        · rfl
        · rw [Bool.not_true, cond_false, Bool.false_or, wi64_in (n := (i : Int) + 1) (by omega)]
          by_cases h0 : 0 < i
          · have hi' : i - 1 < l.length := by omega
            have he : ((i : Int) - 1) = ((i - 1 : Nat) : Int) := by omega
            rw [decide_eq_true (show (i : Int) > 0 by omega), cond_true, decide_eq_true h0, Bool.true_and, wi64_in (n := (i : Int) - 1) (by omega), he, inb_nat hi', cond_true, nth_nat _ _ _ hi', specKey_eq t h ht _ (rowB_len (hp _ hi' (by omega))), specKey_eq t h ht _ (rowB_len hr), specKeyLess_eq _ _ (by rw [keyV_len]; unfold LIM; omega)]
          · rw [decide_eq_false (show ¬ (i : Int) > 0 by omega), cond_false, decide_eq_false h0, Bool.false_and, cond_false]) (fun rec => by
        show spec_RowsOk_l0_r l _ _ t _ _ _ _ = _
        unfold spec_RowsOk_l0_r
        rw [nI_ge, cond_false])
      refine this.trans ?_
      cases anyI (fun i r => !rowB t.2.1 r || (decide (0 < i) && !klt (keyV t (nth [] l ((i : Int) - 1))) (keyV t r))) 0 l <;> rfl
    · rw [decide_eq_true (show nI l.length > 60 by unfold nI; omega), cond_true, decide_eq_false h6, Bool.false_and]
theorem implRows_eq (t : T) (h : msr yT t ≤ 1048576) (l : List (List V)) (k : Bool → Res) : impl_RowsOk t l k = k (rowsB t l) := by
  obtain ⟨m1, m2, m3, m4, m5⟩ := msr_T h
  unfold impl_RowsOk rowsB
  rw [implTab_eq t h]
  cases ht : tabB t
  · rfl
  · rw [Bool.not_true, cond_false, Bool.true_and]
    by_cases h6 : l.length ≤ 60
    · rw [decide_eq_false (show ¬ nI l.length > 60 by unfold nI; omega), cond_false, decide_eq_true h6, Bool.true_and]
      unfold impl_RowsOk_l0
      have := anyP_loop l (fun i => i) (fun i r => !rowB t.2.1 r || (decide (0 < i) && !klt (keyV t (nth [] l ((i : Int) - 1))) (keyV t r))) (fun i => ∀ (j : Nat) (hj : j < l.length), j < i → rowB t.2.1 l[j] = true) (step := impl_RowsOk_l0_s l l (nI l.length) t) ((fun (_ : Unit) => k true), (fun (_ : Unit) => k false)) (k true) (k false) (by unfold LIM; omega) (fun j _ hj => absurd hj (by omega)) (fun i hi hp hb j hj hji => by
        rw [Bool.or_eq_false_iff, Bool.not_eq_false'] at hb
        by_cases hji' : j < i
        · exact hp j hj hji'
        · have : j = i := by omega
          subst this
          exact hb.1) (fun i rec hi hp => by
        show impl_RowsOk_l0_r l _ _ t _ _ _ _ = _
        unfold impl_RowsOk_l0_r
        rw [nI_lt hi, cond_true, inb_nat hi, cond_true, nth_nat _ _ _ hi, implRow_eq t h]
        cases hr : rowB t.2.1 l[i]
        · rfl
        · rw [Bool.not_true, cond_false, Bool.false_or, wi64_in (n := (i : Int) + 1) (by omega)]
          by_cases h0 : 0 < i
          · have hi' : i - 1 < l.length := by omega
            have he : ((i : Int) - 1) = ((i - 1 : Nat) : Int) := by omega
            rw [decide_eq_true (show (i : Int) > 0 by omega), cond_true, decide_eq_true h0, Bool.true_and, wi64_in (n := (i : Int) - 1) (by omega), he, inb_nat hi', cond_true, nth_nat _ _ _ hi', implKey_eq t h ht _ (rowB_len (hp _ hi' (by omega))), implKey_eq t h ht _ (rowB_len hr), implKeyLess_eq _ _ (by rw [keyV_len]; unfold LIM; omega)]
          · rw [decide_eq_false (show ¬ (i : Int) > 0 by omega), cond_false, decide_eq_false h0, Bool.false_and, cond_false]) (fun rec => by
        show impl_RowsOk_l0_r l _ _ t _ _ _ _ = _
        unfold impl_RowsOk_l0_r
        rw [nI_ge, cond_false])
      refine this.trans ?_
      cases anyI (fun i r => !rowB t.2.1 r || (decide (0 < i) && !klt (keyV t (nth [] l ((i : Int) - 1))) (keyV t r))) 0 l <;> rfl
    · rw [decide_eq_true (show nI l.length > 60 by unfold nI; omega), cond_true, decide_eq_false h6, Bool.false_and]
theorem rowsB_parts {t : T} {l : List (List V)} (h : rowsB t l = true) : tabB t = true ∧ l.length ≤ 60 ∧ ∀ r ∈ l, rowB t.2.1 r = true := by
  unfold rowsB at h
  simp only [Bool.and_eq_true, decide_eq_true_eq, Bool.not_eq_true'] at h
  refine ⟨h.1, h.2.1, fun r hr => ?_⟩
  obtain ⟨i, hi, rfl⟩ := List.getElem_of_mem hr
  have := anyI_false l 0 h.2.2 i hi
  simp only [Bool.or_eq_false_iff, Bool.not_eq_false'] at this
  exact this.1
end Go.PI.G
namespace Go.PI.G
open Go Go.PI Go.Proofs

/-! ### catalogs -/
theorem msr_cat {c : List T} (h : msr (.slice yT) c ≤ 1048576) : c.length ≤ 1048576 ∧ ∀ t ∈ c, msr yT t ≤ 1048576 := ⟨msr_len h, fun t ht => msr_mem h ht⟩
theorem specCat_loop (c : List T) (h : msr (.slice yT) c ≤ 1048576) (a b : Unit → Res) : spec_CatOk_l0 c (nI c.length) c FUEL 0 a b = bif anyI (fun i t => !tabB t || (decide (0 < i) && sGe (nth zT c ((i : Int) - 1)).1 t.1)) 0 c then b () else a () := by
  obtain ⟨m1, m2⟩ := msr_cat h
  unfold spec_CatOk_l0
  exact anyI_loop c (fun i => i) (fun i t => !tabB t || (decide (0 < i) && sGe (nth zT c ((i : Int) - 1)).1 t.1)) (step := spec_CatOk_l0_s c (nI c.length) c) (a, b) (a ()) (b ()) (by unfold LIM; omega) (fun i rec hi => by
    show spec_CatOk_l0_r _ _ c _ _ _ _ = _
    unfold spec_CatOk_l0_r
    rw [nI_lt hi, cond_true, inb_nat hi, cond_true, nth_nat _ _ _ hi, specTab_eq _ (m2 _ (List.getElem_mem hi)), wi64_in (n := (i : Int) + 1) (by omega), cat_step c i hi (by unfold LIM; omega)]
    cases tabB c[i]
    · rfl
    · cases (decide (0 < i) && sGe (nth zT c ((i : Int) - 1)).1 c[i].1) <;> rfl) (fun rec => by
    show spec_CatOk_l0_r _ _ c _ _ _ _ = _
    unfold spec_CatOk_l0_r
    rw [nI_ge, cond_false])
theorem implCat_loop (c : List T) (h : msr (.slice yT) c ≤ 1048576) (a b : Unit → Res) : impl_CatOk_l0 c (nI c.length) c FUEL 0 a b = bif anyI (fun i t => !tabB t || (decide (0 < i) && sGe (nth zT c ((i : Int) - 1)).1 t.1)) 0 c then b () else a () := by
  obtain ⟨m1, m2⟩ := msr_cat h
  unfold impl_CatOk_l0
  exact anyI_loop c (fun i => i) (fun i t => !tabB t || (decide (0 < i) && sGe (nth zT c ((i : Int) - 1)).1 t.1)) (step := impl_CatOk_l0_s c (nI c.length) c) (a, b) (a ()) (b ()) (by unfold LIM; omega) (fun i rec hi => by
    show impl_CatOk_l0_r _ _ c _ _ _ _ = _
    unfold impl_CatOk_l0_r
    rw [nI_lt hi, cond_true, inb_nat hi, cond_true, nth_nat _ _ _ hi, implTab_eq _ (m2 _ (List.getElem_mem hi)), wi64_in (n := (i : Int) + 1) (by omega), cat_step c i hi (by unfold LIM; omega)]
    cases tabB c[i]
    · rfl
    · cases (decide (0 < i) && sGe (nth zT c ((i : Int) - 1)).1 c[i].1) <;> rfl) (fun rec => by
    show impl_CatOk_l0_r _ _ c _ _ _ _ = _
    unfold impl_CatOk_l0_r
    rw [nI_ge, cond_false])
theorem specCat_eq (c : List T) (h : msr (.slice yT) c ≤ 1048576) (k : Bool → Res) : spec_CatOk c k = k (catB c) := by
  unfold spec_CatOk catB
  rw [specCat_loop c h]
  by_cases h6 : c.length ≤ 6
  · rw [decide_eq_false (show ¬ nI c.length > 6 by unfold nI; omega), cond_false, decide_eq_true h6, Bool.true_and]
    cases anyI (fun i t => !tabB t || (decide (0 < i) && sGe (nth zT c ((i : Int) - 1)).1 t.1)) 0 c <;> rfl
  · rw [decide_eq_true (show nI c.length > 6 by unfold nI; omega), cond_true, decide_eq_false h6, Bool.false_and]
theorem implCat_eq (c : List T) (h : msr (.slice yT) c ≤ 1048576) (k : Bool → Res) : impl_CatOk c k = k (catB c) := by
  unfold impl_CatOk catB
  rw [implCat_loop c h]
  have : decide (nI c.length ≤ 6) = decide (c.length ≤ 6) := decide_eq_decide.2 (by unfold nI; omega)
  rw [this]
  cases anyI (fun i t => !tabB t || (decide (0 < i) && sGe (nth zT c ((i : Int) - 1)).1 t.1)) 0 c
  · rw [Bool.not_false, Bool.and_true]; rfl
  · rw [Bool.not_true, Bool.and_false]; rfl
end Go.PI.G
namespace Go.PI.G
open Go Go.PI Go.Proofs

theorem msr_DB {d : DB} (h : msr yDB d ≤ 1048576) : msr (.slice yT) d.1 ≤ 1048576 ∧ d.1.length ≤ 1048576 ∧ d.2.length ≤ 1048576 ∧ (∀ t ∈ d.1, msr yT t ≤ 1048576) ∧ ∀ l ∈ d.2, l.length ≤ 1048576 := by
  have h1 : msr yDB d = msr (.slice yT) d.1 + msr (.slice (.slice (.slice yV))) d.2 := rfl
  have h2 : msr (.slice yT) d.1 ≤ 1048576 := by omega
  have h3 : msr (.slice (.slice (.slice yV))) d.2 ≤ 1048576 := by omega
  exact ⟨h2, msr_len h2, msr_len h3, fun t ht => msr_mem h2 ht, fun l hl => msr_len (msr_mem h3 hl)⟩
theorem specDb_eq (d : DB) (h : msr yDB d ≤ 1048576) (k : Bool → Res) : spec_DbOk d k = k (dbB d) := by
  obtain ⟨m1, m2, m3, m4, m5⟩ := msr_DB h
  unfold spec_DbOk dbB
  rw [specCat_eq _ m1]
  cases catB d.1
  · rfl
  · rw [Bool.not_true, cond_false, Bool.true_and]
    by_cases hl : d.2.length = d.1.length
    · have hb : (nI d.2.length != nI d.1.length) = false := by rw [hl, bne_f]
      rw [hb, cond_false, decide_eq_true hl, Bool.true_and]
      unfold spec_DbOk_l0
      have := anyI_loop d.1 (fun i => i) (fun i t => !rowsB t (nth [] d.2 (i : Int))) (step := spec_DbOk_l0_s d.1 (nI d.1.length) d) ((fun (_ : Unit) => k true), (fun (_ : Unit) => k false)) (k true) (k false) (by unfold LIM; omega) (fun i rec hi => by
        show spec_DbOk_l0_r _ _ d _ _ _ _ = _
        unfold spec_DbOk_l0_r
        rw [nI_lt hi, cond_true, inb_nat hi, cond_true, inb_nat (hl ▸ hi), cond_true, nth_nat _ _ _ hi, specRows_eq _ (m4 _ (List.getElem_mem hi)), wi64_in (n := (i : Int) + 1) (by omega)]) (fun rec => by
        show spec_DbOk_l0_r _ _ d _ _ _ _ = _
        unfold spec_DbOk_l0_r
        rw [nI_ge, cond_false])
      refine this.trans ?_
      cases anyI (fun i t => !rowsB t (nth [] d.2 (i : Int))) 0 d.1 <;> rfl
    · have hb : (nI d.2.length != nI d.1.length) = true := by unfold nI; simp; omega
      rw [hb, cond_true, decide_eq_false hl, Bool.false_and]
theorem implDb_eq (d : DB) (h : msr yDB d ≤ 1048576) (k : Bool → Res) : impl_DbOk d k = k (dbB d) := by
  obtain ⟨m1, m2, m3, m4, m5⟩ := msr_DB h
  unfold impl_DbOk dbB
  rw [implCat_eq _ m1]
  cases catB d.1
  · rfl
  · rw [Bool.not_true, cond_false, Bool.true_and]
    by_cases hl : d.2.length = d.1.length
    · have hb : (nI d.2.length != nI d.1.length) = false := by rw [hl, bne_f]
      rw [hb, cond_false, decide_eq_true hl, Bool.true_and]
      unfold impl_DbOk_l0
      have := anyI_loop d.1 (fun i => i) (fun i t => !rowsB t (nth [] d.2 (i : Int))) (step := impl_DbOk_l0_s d.1 (nI d.1.length) d) ((fun (_ : Unit) => k true), (fun (_ : Unit) => k false)) (k true) (k false) (by unfold LIM; omega) (fun i rec hi => by
        show impl_DbOk_l0_r _ _ d _ _ _ _ = _
        unfold impl_DbOk_l0_r
        rw [nI_lt hi, cond_true, inb_nat hi, cond_true, inb_nat (hl ▸ hi), cond_true, nth_nat _ _ _ hi, implRows_eq _ (m4 _ (List.getElem_mem hi)), wi64_in (n := (i : Int) + 1) (by omega)]) (fun rec => by
        show impl_DbOk_l0_r _ _ d _ _ _ _ = _
        unfold impl_DbOk_l0_r
        rw [nI_ge, cond_false])
      refine this.trans ?_
      cases anyI (fun i t => !rowsB t (nth [] d.2 (i : Int))) 0 d.1 <;> rfl
    · have hb : (nI d.2.length != nI d.1.length) = true := by unfold nI; simp; omega
      rw [hb, cond_true, decide_eq_false hl, Bool.false_and]
theorem dbB_parts {d : DB} (h : dbB d = true) : catB d.1 = true ∧ d.2.length = d.1.length ∧ ∀ (i : Nat) (hi : i < d.1.length) (hi' : i < d.2.length), rowsB d.1[i] d.2[i] = true := by
  unfold dbB at h
  simp only [Bool.and_eq_true, decide_eq_true_eq, Bool.not_eq_true'] at h
  refine ⟨h.1, h.2.1, fun i hi hi' => ?_⟩
  have := anyI_false d.1 0 h.2.2 i hi
  rw [Bool.not_eq_false', show 0 + i = i by omega, nth_nat _ _ _ hi'] at this
  exact this
end Go.PI.G
