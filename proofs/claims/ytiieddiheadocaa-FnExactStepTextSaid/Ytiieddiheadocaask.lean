/-
  Printed texts and plain laws. No conditions.
-/
import Derived.Test.Ytiieddiheadocaasc
import Derived.Test.Ytiieddiheadocaasj
import Derived.Test.Ytiieddiheadocaasi
import Derived.Test.Ytiieddiheadocaasd
set_option linter.unusedVariables false
set_option linter.unusedSimpArgs false
namespace Go.PI.G
open Go Go.PI Go.Proofs

theorem bt_get (s : ByteArray) (i : Nat) (h : i < (toBytes s).length) : bt s (i : Int) = (toBytes s)[i] := by
  have hl := toBytes_len s
  have h' : i < s.data.size := by
    have : i < s.size := by omega
    exact this
  have e1 : (toBytes s)[i] = ((s.data.toList.map fun b : UInt8 => (b.toNat : Int))[i]'(by simpa using h')) := rfl
  rw [e1, List.getElem_map]
  unfold bt
  simp [Array.getElem?_eq_getElem h']
theorem word_end (s : ByteArray) (x : Bool) (k : Bool → Res) : (bif x then k false else (bif decide ((nI (ByteArray.size s)) ≥ 1) then k (decide ((nI (ByteArray.size s)) ≤ 8)) else k false)) = k (!x && (decide (1 ≤ s.size) && decide (s.size ≤ 8))) := by
  cases x
  · unfold nI
    by_cases h1 : 1 ≤ s.size
    · rw [cond_false, decide_eq_true (show (s.size : Int) ≥ 1 by omega), cond_true, decide_eq_true h1]
      congr 1
      by_cases h2 : s.size ≤ 8
      · rw [decide_eq_true (show (s.size : Int) ≤ 8 by omega), decide_eq_true h2]; rfl
      · rw [decide_eq_false (show ¬ (s.size : Int) ≤ 8 by omega), decide_eq_false h2]; rfl
    · rw [cond_false, decide_eq_false (show ¬ (s.size : Int) ≥ 1 by omega), cond_false, decide_eq_false h1]; rfl
  · rfl
theorem specWord_eq (s : ByteArray) (h : s.size ≤ LIM) (k : Bool → Res) : spec_WordOk s k = k (wordB s) := by
  unfold spec_WordOk spec_WordOk_l0
  have hl := toBytes_len s
  have := any_loop (toBytes s) (fun i => i) (fun b => decide (b < 97) || decide (b > 122)) (step := spec_WordOk_l0_s s) ((fun (_ : Unit) => bif decide ((nI (ByteArray.size s)) ≥ 1) then k (decide ((nI (ByteArray.size s)) ≤ 8)) else k false), (fun (_ : Unit) => k false)) (bif decide ((nI (ByteArray.size s)) ≥ 1) then k (decide ((nI (ByteArray.size s)) ≤ 8)) else k false) (k false) (by omega) (fun i rec hi => by
    show spec_WordOk_l0_r s _ _ _ _ = _
    unfold spec_WordOk_l0_r
    unfold LIM at h
    have hi' : i < s.size := by omega
    rw [nI_lt hi', cond_true, inb_nat hi', cond_true, cond_true, bt_get s i hi, wi64_in (n := (i : Int) + 1) (by omega)]
    cases decide ((toBytes s)[i] < 97)
    · cases decide ((toBytes s)[i] > 122) <;> rfl
    · rfl) (fun rec => by
    show spec_WordOk_l0_r s _ _ _ _ = _
    unfold spec_WordOk_l0_r
    rw [hl, nI_ge, cond_false])
  refine this.trans ?_
  exact word_end s _ k
theorem implWord_eq (s : ByteArray) (h : s.size ≤ LIM) (k : Bool → Res) : impl_WordOk s k = k (wordB s) := by
  unfold impl_WordOk impl_WordOk_l0
  have hl := toBytes_len s
  have := any_loop (toBytes s) (fun i => i) (fun b => decide (b < 97) || decide (b > 122)) (step := impl_WordOk_l0_s s) ((fun (_ : Unit) => impl_within (nI (ByteArray.size s)) 1 8 fun (r : Bool) => k r), (fun (_ : Unit) => k false)) (impl_within (nI (ByteArray.size s)) 1 8 fun (r : Bool) => k r) (k false) (by omega) (fun i rec hi => by
    show impl_WordOk_l0_r s _ _ _ _ = _
    unfold impl_WordOk_l0_r
    unfold LIM at h
    have hi' : i < s.size := by omega
    rw [nI_lt hi', cond_true, inb_nat hi', cond_true, cond_true, bt_get s i hi, wi64_in (n := (i : Int) + 1) (by omega)]
    cases decide ((toBytes s)[i] < 97)
    · cases decide ((toBytes s)[i] > 122) <;> rfl
    · rfl) (fun rec => by
    show impl_WordOk_l0_r s _ _ _ _ = _
    unfold impl_WordOk_l0_r
    rw [hl, nI_ge, cond_false])
  refine this.trans ?_
  rw [within_eq]
  have hd : decide (1 ≤ nI s.size ∧ nI s.size ≤ 8) = (decide (1 ≤ s.size) && decide (s.size ≤ 8)) := by
    rw [← Bool.decide_and]
    exact decide_eq_decide.2 (by unfold nI; omega)
  rw [hd]
  unfold wordB
  cases (toBytes s).any fun b => decide (b < 97) || decide (b > 122) <;> rfl

/-! ### columns -/
theorem specCol_eq (c : C) (h : c.1.size ≤ LIM) (k : Bool → Res) : spec_ColOk c k = k (colB c) := by
  obtain ⟨n, ty, nt, hs, df⟩ := c
  unfold spec_ColOk colB
  dsimp only at h ⊢
  rw [specWord_eq n h, specVal_eq]
  cases wordB n
  · rfl
  · rw [Bool.not_true, cond_false, Bool.true_and]
    by_cases h1 : 1 ≤ ty ∧ ty ≤ 3
    · rw [decide_eq_false (show ¬ ty < 1 by omega), cond_false, decide_eq_false (show ¬ ty > 3 by omega), cond_false, decide_eq_true h1, Bool.true_and]
      cases hs
      · rw [Bool.not_false, cond_true, cond_false]
        have : valB df = false → nullB df = false := fun hv => by
          cases hn : nullB df with
          | false => rfl
          | true =>
            unfold nullB at hn
            simp only [Bool.and_eq_true, beq_iff_eq, sEq_iff] at hn
            have : df = (0, 0, eS) := by
              obtain ⟨a, b, c⟩ := df
              simp only at hn
              rw [hn.1, hn.2.1, hn.2.2]
            rw [this, valB_null] at hv
            cases hv
        cases hv : valB df
        · rw [Bool.false_and]
          exact congrArg k (this hv)
        · rfl
      · rw [Bool.not_true, cond_false, cond_true]
        cases hv : valB df
        · rfl
        · rw [cond_true, Bool.true_and]
          have hnull : (df.1 == 0) = true → ((df.1 == 0) && ((df.2.1 == 0) && sEq df.2.2 eS)) = true := fun h0 => by
            rcases valB_cases hv with rfl | ⟨m, _, rfl⟩ | ⟨m, _, rfl⟩ | ⟨m, _, rfl⟩
            · exact nullB_null
            · cases h0
            · cases h0
            · cases h0
          cases h0 : df.1 == 0
          · rw [Bool.false_and, cond_false]
            cases df.1 == ty <;> rfl
          · have := hnull h0
            rw [h0] at this
            rw [this, cond_true, cond_true]
            have hty : (df.1 == ty) = false := by
              simp only [beq_iff_eq] at h0
              rw [h0]; simp; omega
            rw [hty, Bool.false_or, Bool.true_and]
    · rw [decide_eq_false h1]
      by_cases h2 : ty < 1
      · rw [decide_eq_true h2]; rfl
      · rw [decide_eq_false h2, cond_false, decide_eq_true (show ty > 3 by omega)]; rfl
theorem implCol_eq (c : C) (h : c.1.size ≤ LIM) (k : Bool → Res) : impl_ColOk c k = k (colB c) := by
  obtain ⟨n, ty, nt, hs, df⟩ := c
  unfold impl_ColOk colB
  dsimp only at h ⊢
  rw [implWord_eq n h, within_eq, implVal_eq]
  cases wordB n
  · rfl
  · cases decide (1 ≤ ty ∧ ty ≤ 3)
    · rfl
    · cases valB df
      · rfl
      · cases hs
        · rfl
        · cases df.1 == ty
          · cases df.1 == 0 <;> rfl
          · rfl

theorem specAt_eq (t : T) (n : ByteArray) (h : t.2.1.length ≤ LIM) (k : Int → Res) : spec_ColAt t n k = k (colAt t.2.1 n) := by
  unfold spec_ColAt spec_ColAt_l0
  refine find_loop t.2.1 (fun i => i) (fun c => sEq c.1 n) (step := spec_ColAt_l0_s n t.2.1 (nI t.2.1.length)) _ k h (fun i rec hi => ?_) (fun rec => ?_)
  · show spec_ColAt_l0_r n _ _ _ _ _ _ = _
    unfold spec_ColAt_l0_r
    unfold LIM at h
    rw [nI_lt hi, cond_true, inb_nat hi, cond_true, nth_nat _ _ _ hi, wi64_in (n := (i : Int) + 1) (by omega)]
  · show spec_ColAt_l0_r n _ _ _ _ _ _ = _
    unfold spec_ColAt_l0_r
    rw [nI_ge, cond_false]
theorem implAt_eq (t : T) (n : ByteArray) (h : t.2.1.length ≤ LIM) (k : Int → Res) : impl_ColAt t n k = k (colAt t.2.1 n) := by
  unfold impl_ColAt slices_IndexFunc_Col slices_IndexFunc_Col_l0
  refine find_loop t.2.1 (fun i => i) (fun c => sEq c.1 n) (step := slices_IndexFunc_Col_l0_s t.2.1 n (nI t.2.1.length)) _ k h (fun i rec hi => ?_) (fun rec => ?_)
  · show slices_IndexFunc_Col_l0_r _ n _ _ _ _ _ = _
    unfold slices_IndexFunc_Col_l0_r impl_ColAt1
    unfold LIM at h
    rw [nI_lt hi, cond_true, inb_nat hi, cond_true, nth_nat _ _ _ hi, wi64_in (n := (i : Int) + 1) (by omega)]
  · show slices_IndexFunc_Col_l0_r _ n _ _ _ _ _ = _
    unfold slices_IndexFunc_Col_l0_r
    rw [nI_ge, cond_false]

/-! ### tables -/
theorem msr_T {t : T} (h : msr yT t ≤ 1048576) : t.1.size ≤ 1048576 ∧ t.2.1.length ≤ 1048576 ∧ t.2.2.length ≤ 1048576 ∧ (∀ c ∈ t.2.1, c.1.size ≤ 1048576) ∧ ∀ x ∈ t.2.2, x.size ≤ 1048576 := by
  have h1 : msr yT t = t.1.size + (msr (.slice yC) t.2.1 + msr (.slice .str) t.2.2) := rfl
  have h2 : msr (.slice yC) t.2.1 ≤ 1048576 := by omega
  have h3 : msr (.slice .str) t.2.2 ≤ 1048576 := by omega
  refine ⟨by omega, msr_len h2, msr_len h3, fun c hc => ?_, fun x hx => msr_mem h3 hx⟩
  have := msr_mem h2 hc
  have h4 : msr yC c = c.1.size + msr (.pair (.int .i64) (.pair .bool (.pair .bool yV))) c.2 := rfl
  omega

/-- A table whose parts are not too long. -/
def tSm (t : T) : Prop := t.1.size ≤ 1048576 ∧ t.2.1.length ≤ 1048576 ∧ t.2.2.length ≤ 1048576 ∧ (∀ c ∈ t.2.1, c.1.size ≤ 1048576) ∧ ∀ x ∈ t.2.2, x.size ≤ 1048576
theorem specCols_loop (t : T) (h : tSm t) (a b : Unit → Res) : spec_TableOk_l1 t.2.1 (nI t.2.1.length) t FUEL 0 a b = bif colsB t.2.1 then a () else b () := by
  have hh := h
  obtain ⟨m1, m2, m3, m4, m5⟩ := hh
  unfold spec_TableOk_l1
  have := anyI_loop t.2.1 (fun i => i) (fun i c => !colB c || (colAt t.2.1 c.1 != (i : Int))) (step := spec_TableOk_l1_s t.2.1 (nI t.2.1.length) t) (a, b) (a ()) (b ()) (by unfold LIM; omega) (fun i rec hi => by
    show spec_TableOk_l1_r _ _ t _ _ _ _ = _
    unfold spec_TableOk_l1_r
    rw [nI_lt hi, cond_true, inb_nat hi, cond_true, nth_nat _ _ _ hi, specCol_eq _ (by have := m4 _ (List.getElem_mem hi); unfold LIM; omega), specAt_eq t _ (by unfold LIM; omega), wi64_in (n := (i : Int) + 1) (by omega)]
    cases colB t.2.1[i]
    · rfl
    · cases colAt t.2.1 t.2.1[i].1 != (i : Int) <;> rfl) (fun rec => by
    show spec_TableOk_l1_r _ _ t _ _ _ _ = _
    unfold spec_TableOk_l1_r
    rw [nI_ge, cond_false])
  refine this.trans ?_
  unfold colsB
  cases anyI (fun i c => !colB c || (colAt t.2.1 c.1 != (i : Int))) 0 t.2.1 <;> rfl
theorem implCols_loop (t : T) (h : tSm t) (a b : Unit → Res) : impl_TableOk_l0 t.2.1 (nI t.2.1.length) t FUEL 0 a b = bif colsB t.2.1 then a () else b () := by
  have hh := h
  obtain ⟨m1, m2, m3, m4, m5⟩ := hh
  unfold impl_TableOk_l0
  have := anyI_loop t.2.1 (fun i => i) (fun i c => !colB c || (colAt t.2.1 c.1 != (i : Int))) (step := impl_TableOk_l0_s t.2.1 (nI t.2.1.length) t) (a, b) (a ()) (b ()) (by unfold LIM; omega) (fun i rec hi => by
    show impl_TableOk_l0_r _ _ t _ _ _ _ = _
    unfold impl_TableOk_l0_r
    rw [nI_lt hi, cond_true, inb_nat hi, cond_true, nth_nat _ _ _ hi, implCol_eq _ (by have := m4 _ (List.getElem_mem hi); unfold LIM; omega), implAt_eq t _ (by unfold LIM; omega), wi64_in (n := (i : Int) + 1) (by omega)]
    cases colB t.2.1[i]
    · rfl
    · cases colAt t.2.1 t.2.1[i].1 != (i : Int) <;> rfl) (fun rec => by
    show impl_TableOk_l0_r _ _ t _ _ _ _ = _
    unfold impl_TableOk_l0_r
    rw [nI_ge, cond_false])
  refine this.trans ?_
  unfold colsB
  cases anyI (fun i c => !colB c || (colAt t.2.1 c.1 != (i : Int))) 0 t.2.1 <;> rfl

def keyStep (l : List C) (last : Int) (k : ByteArray) : Except Unit Int := bif decide (colAt l k ≤ last) then .error () else bif !(nth zC l (colAt l k)).2.2.1 then .error () else .ok (colAt l k)
theorem keys_walk (l : List C) : (ks : List ByteArray) → (i : Nat) → (last : Int) → (∃ z, walkL (fun _ last k => keyStep l last k) i ks last = .ok z ∧ keysUp l last ks = true) ∨ (walkL (fun _ last k => keyStep l last k) i ks last = .error () ∧ keysUp l last ks = false)
  | [], _, last => .inl ⟨last, rfl, rfl⟩
  | k :: ks, i, last => by
    have ih := keys_walk l ks (i + 1) (colAt l k)
    simp only [walkL, keysUp, keyStep] at ih ⊢
    cases decide (colAt l k ≤ last)
    · cases (nth zC l (colAt l k)).2.2.1
      · exact .inr ⟨rfl, rfl⟩
      · exact ih
    · exact .inr ⟨rfl, rfl⟩
theorem specKeys_loop (t : T) (h : tSm t) (a b : Unit → Res) : spec_TableOk_l2 t.2.2 (nI t.2.2.length) t FUEL (-1) 0 a b = bif keysUp t.2.1 (-1) t.2.2 then a () else b () := by
  have hh := h
  obtain ⟨m1, m2, m3, m4, m5⟩ := hh
  unfold spec_TableOk_l2
  have := walk_loop t.2.2 (fun i last => (last, i)) (fun _ last k => keyStep t.2.1 last k) (fun _ last => -1 ≤ last) (step := spec_TableOk_l2_s t.2.2 (nI t.2.2.length) t) (a, b) (fun _ => a ()) (fun _ => b ()) (-1) (by unfold LIM; omega) (by omega) (fun i last last' hi h0 hk => by
    unfold keyStep at hk
    have := (colAt_range t.2.1 t.2.2[i]).1
    cases h1 : decide (colAt t.2.1 t.2.2[i] ≤ last)
    · rw [h1, cond_false] at hk
      cases h2 : (nth zC t.2.1 (colAt t.2.1 t.2.2[i])).2.2.1
      · rw [h2] at hk; cases hk
      · rw [h2] at hk
        cases hk
        exact this
    · rw [h1] at hk; cases hk) (fun i last rec hi h0 => by
    show spec_TableOk_l2_r _ _ t _ _ _ _ _ = _
    unfold spec_TableOk_l2_r
    dsimp only
    rw [nI_lt hi, cond_true, inb_nat hi, cond_true, nth_nat _ _ _ hi, specAt_eq t _ (by unfold LIM; omega), wi64_in (n := (i : Int) + 1) (by omega)]
    unfold keyStep
    by_cases h1 : colAt t.2.1 t.2.2[i] ≤ last
    · rw [decide_eq_true h1]; rfl
    · have hr := (colAt_range t.2.1 t.2.2[i]).2
      rw [decide_eq_false h1, cond_false, cond_false, inb_of (by omega) hr, cond_true]
      cases (nth zC t.2.1 (colAt t.2.1 t.2.2[i])).2.2.1 <;> rfl) (fun last rec _ => by
    show spec_TableOk_l2_r _ _ t _ _ _ _ _ = _
    unfold spec_TableOk_l2_r
    dsimp only
    rw [nI_ge, cond_false])
  refine this.trans ?_
  rcases keys_walk t.2.1 t.2.2 0 (-1) with ⟨z, h1, h2⟩ | ⟨h1, h2⟩ <;> rw [h1, h2] <;> rfl
theorem implKeys_loop (t : T) (h : tSm t) (a b : Unit → Res) : impl_TableOk_l1 t.2.2 (nI t.2.2.length) t FUEL (-1) 0 a b = bif keysUp t.2.1 (-1) t.2.2 then a () else b () := by
  have hh := h
  obtain ⟨m1, m2, m3, m4, m5⟩ := hh
  unfold impl_TableOk_l1
  have := walk_loop t.2.2 (fun i last => (last, i)) (fun _ last k => keyStep t.2.1 last k) (fun _ last => -1 ≤ last) (step := impl_TableOk_l1_s t.2.2 (nI t.2.2.length) t) (a, b) (fun _ => a ()) (fun _ => b ()) (-1) (by unfold LIM; omega) (by omega) (fun i last last' hi h0 hk => by
    unfold keyStep at hk
    have := (colAt_range t.2.1 t.2.2[i]).1
    cases h1 : decide (colAt t.2.1 t.2.2[i] ≤ last)
    · rw [h1, cond_false] at hk
      cases h2 : (nth zC t.2.1 (colAt t.2.1 t.2.2[i])).2.2.1
      · rw [h2] at hk; cases hk
      · rw [h2] at hk
        cases hk
        exact this
    · rw [h1] at hk; cases hk) (fun i last rec hi h0 => by
    show impl_TableOk_l1_r _ _ t _ _ _ _ _ = _
    unfold impl_TableOk_l1_r
    dsimp only
    rw [nI_lt hi, cond_true, inb_nat hi, cond_true, nth_nat _ _ _ hi, implAt_eq t _ (by unfold LIM; omega), wi64_in (n := (i : Int) + 1) (by omega)]
    unfold keyStep
    by_cases h1 : colAt t.2.1 t.2.2[i] ≤ last
    · rw [decide_eq_true h1]; rfl
    · have hr := (colAt_range t.2.1 t.2.2[i]).2
      rw [decide_eq_false h1, cond_false, cond_false, inb_of (by omega) hr, cond_true]
      cases (nth zC t.2.1 (colAt t.2.1 t.2.2[i])).2.2.1 <;> rfl) (fun last rec _ => by
    show impl_TableOk_l1_r _ _ t _ _ _ _ _ = _
    unfold impl_TableOk_l1_r
    dsimp only
    rw [nI_ge, cond_false])
  refine this.trans ?_
  rcases keys_walk t.2.1 t.2.2 0 (-1) with ⟨z, h1, h2⟩ | ⟨h1, h2⟩ <;> rw [h1, h2] <;> rfl
theorem tab_head (t : T) (k : Bool → Res) : spec_TableOk_p0 t k = spec_WordOk t.1 fun w => k (!(w && (decide (1 ≤ t.2.1.length) && (decide (t.2.1.length ≤ 8) && decide (1 ≤ t.2.2.length))))) := by
  unfold spec_TableOk_p0
  congr 1
  funext w
  unfold nI
  cases w
  · rfl
  · rw [Bool.not_true, cond_false, Bool.true_and]
    by_cases h1 : 1 ≤ t.2.1.length
    · rw [decide_eq_false (show ¬ (t.2.1.length : Int) < 1 by omega), cond_false, decide_eq_true h1, Bool.true_and]
      by_cases h2 : t.2.1.length ≤ 8
      · rw [decide_eq_false (show ¬ (t.2.1.length : Int) > 8 by omega), cond_false, decide_eq_true h2, Bool.true_and]
        congr 1
        by_cases h3 : 1 ≤ t.2.2.length
        · rw [decide_eq_false (show ¬ (t.2.2.length : Int) < 1 by omega), decide_eq_true h3]; rfl
        · rw [decide_eq_true (show (t.2.2.length : Int) < 1 by omega), decide_eq_false h3]; rfl
      · rw [decide_eq_true (show (t.2.1.length : Int) > 8 by omega), decide_eq_false h2]; rfl
    · rw [decide_eq_true (show (t.2.1.length : Int) < 1 by omega), decide_eq_false h1]; rfl
theorem specTabS_eq (t : T) (h : tSm t) (k : Bool → Res) : spec_TableOk t k = k (tabB t) := by
  have hh := h
  obtain ⟨m1, m2, m3, m4, m5⟩ := hh
  unfold spec_TableOk tabB
  rw [tab_head, specWord_eq _ (by unfold LIM; omega), specCols_loop t h, specKeys_loop t h]
  cases wordB t.1 && (decide (1 ≤ t.2.1.length) && (decide (t.2.1.length ≤ 8) && decide (1 ≤ t.2.2.length)))
  · rfl
  · cases colsB t.2.1
    · rfl
    · cases keysUp t.2.1 (-1) t.2.2 <;> rfl
theorem implTabS_eq (t : T) (h : tSm t) (k : Bool → Res) : impl_TableOk t k = k (tabB t) := by
  have hh := h
  obtain ⟨m1, m2, m3, m4, m5⟩ := hh
  unfold impl_TableOk tabB
  rw [implWord_eq _ (by unfold LIM; omega), within_eq, implCols_loop t h, implKeys_loop t h]
  have hd : decide (1 ≤ nI t.2.1.length ∧ nI t.2.1.length ≤ 8) = (decide (1 ≤ t.2.1.length) && decide (t.2.1.length ≤ 8)) := by
    rw [← Bool.decide_and]
    exact decide_eq_decide.2 (by unfold nI; omega)
  have hk : decide (nI t.2.2.length > 0) = decide (1 ≤ t.2.2.length) := decide_eq_decide.2 (by unfold nI; omega)
  rw [hd, hk]
  cases colsB t.2.1
  · rw [Bool.false_and, Bool.and_false]; rfl
  · cases keysUp t.2.1 (-1) t.2.2
    · rw [Bool.and_false, Bool.and_false]; rfl
    · cases wordB t.1
      · rfl
      · cases decide (1 ≤ t.2.1.length)
        · rfl
        · cases decide (t.2.1.length ≤ 8)
          · rfl
          · cases decide (1 ≤ t.2.2.length) <;> rfl

theorem specTab_eq (t : T) (h : msr yT t ≤ 1048576) (k : Bool → Res) : spec_TableOk t k = k (tabB t) := specTabS_eq t (msr_T h) k
theorem implTab_eq (t : T) (h : msr yT t ≤ 1048576) (k : Bool → Res) : impl_TableOk t k = k (tabB t) := implTabS_eq t (msr_T h) k

/-! ### catalogs -/
theorem cat_step (c : List T) (i : Nat) (hi : i < c.length) (hl : c.length ≤ LIM) (x : Res) (y : Res) : (bif decide ((i : Int) > 0) then (bif inb (wi64 ((i : Int) - 1)) c.length then (bif sGe (nth zT c (wi64 ((i : Int) - 1))).1 c[i].1 then x else y) else none) else y) =
    bif (decide (0 < i) && sGe (nth zT c ((i : Int) - 1)).1 c[i].1) then x else y := by
  by_cases h : 0 < i
  · unfold LIM at hl
    rw [decide_eq_true (show (i : Int) > 0 by omega), decide_eq_true h, cond_true, wi64_in (by omega), inb_of (by omega) (by omega), cond_true, Bool.true_and]
  · rw [decide_eq_false (show ¬ (i : Int) > 0 by omega), decide_eq_false h]; rfl
end Go.PI.G
namespace Go.PI.G
open Go Go.PI Go.Proofs

theorem eqStr_nil (l : List ByteArray) (k : Bool → Res) : slices_Equal_string l [] k = k (l.length == 0) := by
  unfold slices_Equal_string
  rw [nI_ne]
  cases l with
  | nil =>
    obtain ⟨m, hm⟩ := FUEL_one
    rw [show (!(([] : List ByteArray).length == ([] : List ByteArray).length)) = false from rfl, cond_false]
    unfold slices_Equal_string_l0
    rw [hm, iter_succ]
    rfl
  | cons x l => rfl
theorem eqStr_self (l : List ByteArray) (h : l.length ≤ LIM) (k : Bool → Res) : slices_Equal_string l l k = k true := by
  unfold slices_Equal_string slices_Equal_string_l0
  rw [nI_ne, beq_self_eq_true, Bool.not_true, cond_false]
  have := any_loop l (fun i => i) (fun _ => false) (step := slices_Equal_string_l0_s l l (nI l.length)) ((fun (_ : Unit) => k true), (fun (_ : Unit) => k false)) (k true) (k false) h (fun i rec hi => by
    show slices_Equal_string_l0_r _ _ _ _ _ _ _ = _
    unfold slices_Equal_string_l0_r
    unfold LIM at h
    rw [nI_lt hi, cond_true, inb_nat hi, cond_true, cond_true, sNe_self, cond_false, cond_false, wi64_in (by omega)]) (fun rec => by
    show slices_Equal_string_l0_r _ _ _ _ _ _ _ = _
    unfold slices_Equal_string_l0_r
    rw [nI_ge, cond_false])
  refine this.trans ?_
  have : (l.any fun _ => false) = false := by simp
  rw [this, cond_false]
theorem eqCol_nil (l : List C) (k : Bool → Res) : slices_Equal_Col l [] k = k (l.length == 0) := by
  unfold slices_Equal_Col
  rw [nI_ne]
  cases l with
  | nil =>
    obtain ⟨m, hm⟩ := FUEL_one
    rw [show (!(([] : List C).length == ([] : List C).length)) = false from rfl, cond_false]
    unfold slices_Equal_Col_l0
    rw [hm, iter_succ]
    rfl
  | cons x l => rfl
theorem eqCol_self (l : List C) (h : l.length ≤ LIM) (k : Bool → Res) : slices_Equal_Col l l k = k true := by
  unfold slices_Equal_Col slices_Equal_Col_l0
  rw [nI_ne, beq_self_eq_true, Bool.not_true, cond_false]
  have := any_loop l (fun i => i) (fun _ => false) (step := slices_Equal_Col_l0_s l l (nI l.length)) ((fun (_ : Unit) => k true), (fun (_ : Unit) => k false)) (k true) (k false) h (fun i rec hi => by
    show slices_Equal_Col_l0_r _ _ _ _ _ _ _ = _
    unfold slices_Equal_Col_l0_r
    unfold LIM at h
    have hb : ∀ x : Bool, (x == x) = true := by decide
    rw [nI_lt hi, cond_true, inb_nat hi, cond_true, cond_true]
    simp only [sEq_self, beq_self_eq_true, hb, Bool.and_true, Bool.not_true, cond_false]
    rw [wi64_in (by omega)]) (fun rec => by
    show slices_Equal_Col_l0_r _ _ _ _ _ _ _ = _
    unfold slices_Equal_Col_l0_r
    rw [nI_ge, cond_false])
  refine this.trans ?_
  have : (l.any fun _ => false) = false := by simp
  rw [this, cond_false]
theorem dSm_T {d : D} (h : dSm d) : tSm (d.2.1, d.2.2.1, d.2.2.2.1) := ⟨h.1, h.2.1, h.2.2.1, h.2.2.2.1, h.2.2.2.2.1⟩
theorem ddl_p0 (d : D) (K : Bool → Res) : spec_DdlOk_p0 d K = K (plainD d) := by
  unfold spec_DdlOk_p0 plainD
  rw [nI_zero, nI_zero]
  cases d.2.2.1.length == 0 <;> rfl
theorem specDdl_eq (d : D) (h : dSm d) (k : Bool → Res) : spec_DdlOk d k = k (ddlB d) := by
  have h0 := dSm_T h
  obtain ⟨m1, m2, m3, m4, m5, m6, m7⟩ := h
  obtain ⟨kd, t, cs, ks, n, m⟩ := d
  dsimp only at m1 m2 m3 m4 m5 m6 m7 h0
  unfold spec_DdlOk ddlB
  rw [ddl_p0]
  generalize hpl : plainD (kd, t, cs, ks, n, m) = pl
  dsimp only
  rw [specWord_eq _ (by unfold LIM; omega), nI_zero]
  cases wordB t
  · rfl
  · rw [Bool.not_true, cond_false, Bool.true_and]
    cases kd == 1
    · cases kd == 2
      · cases kd == 3
        · cases kd == 4
          · cases kd == 5
            · rfl
            · rw [cond_false, cond_false, cond_false, cond_false, cond_true, cond_false, cond_false, cond_false, cond_false, cond_true, specWord_eq n (by unfold LIM; omega), specWord_eq m (by unfold LIM; omega)]
              cases pl
              · rfl
              · cases wordB n <;> rfl
          · rw [cond_false, cond_false, cond_false, cond_true, cond_false, cond_false, cond_false, cond_true, specWord_eq n (by unfold LIM; omega)]
            cases pl
            · rfl
            · cases wordB n <;> rfl
        · rw [cond_false, cond_false, cond_true, cond_false, cond_false, cond_true, nI_one]
          cases hl : cs.length == 1
          · rfl
          · have hl' : cs.length = 1 := by simpa using hl
            have hi : inb 0 cs.length = true := by rw [hl']; rfl
            have hc : (nth zC cs 0).1.size ≤ LIM := by
              have := m4 (nth zC cs 0) (by rw [show (0 : Int) = ((0 : Nat) : Int) by rfl, nth_nat _ _ _ (by omega)]; exact List.getElem_mem _)
              unfold LIM; omega
            rw [cond_true, hi, cond_true, specCol_eq _ hc, Bool.true_and]
            cases colB (nth zC cs 0)
            · rfl
            · rw [cond_true, cond_true, cond_true, Bool.true_and]
              cases (nth zC cs 0).2.2.2.1
              · cases (nth zC cs 0).2.2.1
                · cases ks.length == 0
                  · rfl
                  · cases sEq n eS <;> rfl
                · rfl
              · cases ks.length == 0
                · rfl
                · cases sEq n eS <;> rfl
      · rw [cond_false, cond_true, cond_false, cond_true]
        cases pl
        · rfl
        · cases sEq n eS <;> rfl
    · rw [cond_true, cond_true, specTabS_eq _ h0]
      cases sEq n eS
      · rfl
      · cases sEq m eS <;> rfl
theorem implMade_eq (d : D) (h : dSm d) (k : T → Res) : impl_Ddl_made d k = k (d.2.1, d.2.2.1, d.2.2.2.1) := by
  unfold impl_Ddl_made impl_copyTable impl_copyTexts
  have h1 := h.2.1
  have h2 := h.2.2.1
  dsimp only
  rw [lim_of (by unfold LIM; omega), cond_true, lim_of (by unfold LIM; omega), cond_true]
theorem implDdl_eq (d : D) (h : dSm d) (k : Bool → Res) : impl_DdlOk d k = k (ddlB d) := by
  have h0 := dSm_T h
  have hmd := implMade_eq d h
  obtain ⟨m1, m2, m3, m4, m5, m6, m7⟩ := h
  obtain ⟨kd, t, cs, ks, n, m⟩ := d
  dsimp only at m1 m2 m3 m4 m5 m6 m7 h0 hmd
  unfold impl_DdlOk ddlB plainD
  dsimp only
  rw [implWord_eq _ (by unfold LIM; omega)]
  have L1 : cs.length ≤ LIM := by unfold LIM; omega
  have L2 : ks.length ≤ LIM := by unfold LIM; omega
  cases wordB t
  · rfl
  · rw [Bool.not_true, cond_false, Bool.true_and]
    cases h1 : kd == 1
    · cases kd == 2
      · cases kd == 3
        · cases kd == 4
          · cases kd == 5
            · rfl
            · rw [cond_false, cond_false, cond_false, cond_false, cond_true, cond_false, cond_false, cond_false, cond_false, cond_true]
              unfold impl_equalDdl
              dsimp only
              rw [beq_self_eq_true, cond_true, sEq_self, cond_true, eqCol_nil, eqStr_nil, sEq_self, cond_true, sEq_self, implWord_eq n (by unfold LIM; omega), implWord_eq m (by unfold LIM; omega)]
              cases cs.length == 0
              · rfl
              · cases ks.length == 0
                · rfl
                · cases wordB n <;> rfl
          · rw [cond_false, cond_false, cond_false, cond_true, cond_false, cond_false, cond_false, cond_true]
            unfold impl_equalDdl
            dsimp only
            rw [beq_self_eq_true, cond_true, sEq_self, cond_true, eqCol_nil, eqStr_nil, sEq_self, cond_true, implWord_eq n (by unfold LIM; omega)]
            cases cs.length == 0
            · rfl
            · cases ks.length == 0
              · rfl
              · cases sEq m eS <;> cases wordB n <;> rfl
        · rw [cond_false, cond_false, cond_true, cond_false, cond_false, cond_true, nI_one]
          unfold impl_equalDdl
          dsimp only
          rw [beq_self_eq_true, cond_true, sEq_self, cond_true, eqCol_self _ L1, cond_true, eqStr_nil]
          cases hl : cs.length == 1
          · cases ks.length == 0
            · rfl
            · cases sEq n eS
              · rfl
              · cases sEq m eS <;> rfl
          · have hl' : cs.length = 1 := by simpa using hl
            have hi : inb 0 cs.length = true := by rw [hl']; rfl
            have hc : (nth zC cs 0).1.size ≤ LIM := by
              have := m4 (nth zC cs 0) (by rw [show (0 : Int) = ((0 : Nat) : Int) by rfl, nth_nat _ _ _ (by omega)]; exact List.getElem_mem _)
              unfold LIM; omega
            rw [hi, implCol_eq _ hc]
            cases ks.length == 0
            · cases colB (nth zC cs 0) <;> cases (nth zC cs 0).2.2.2.1 <;> cases (nth zC cs 0).2.2.1 <;> rfl
            · cases sEq n eS
              · cases colB (nth zC cs 0) <;> cases (nth zC cs 0).2.2.2.1 <;> cases (nth zC cs 0).2.2.1 <;> rfl
              · cases sEq m eS <;> cases colB (nth zC cs 0) <;> cases (nth zC cs 0).2.2.2.1 <;> cases (nth zC cs 0).2.2.1 <;> rfl
      · rw [cond_false, cond_true, cond_false, cond_true]
        unfold impl_equalDdl
        dsimp only
        rw [beq_self_eq_true, cond_true, sEq_self, cond_true, eqCol_nil, eqStr_nil]
        cases cs.length == 0
        · rfl
        · cases ks.length == 0
          · rfl
          · cases sEq n eS <;> rfl
    · have e1 : kd = 1 := by simpa using h1
      subst e1
      rw [cond_true, cond_true, hmd, implTabS_eq _ h0]
      cases tabB (t, cs, ks)
      · cases sEq n eS
        · rfl
        · cases sEq m eS <;> rfl
      · cases sEq n eS <;> cases sEq m eS <;> rfl
theorem specNoD_eq (d : D) (k : Bool → Res) : spec_l04NoDdl d k = k (noD d) := by
  unfold spec_l04NoDdl noD
  rw [nI_zero, nI_zero]
  cases d.1 == 0
  · rfl
  · cases sEq d.2.1 eS
    · rfl
    · cases d.2.2.1.length == 0
      · rfl
      · cases d.2.2.2.1.length == 0
        · rfl
        · cases sEq d.2.2.2.2.1 eS <;> rfl
theorem implNoD_eq (d : D) (k : Bool → Res) : impl_equalDdl d zD k = k (noD d) := by
  unfold impl_equalDdl noD
  rw [eqCol_nil, eqStr_nil]
  cases d.1 == 0
  · rfl
  · cases sEq d.2.1 eS
    · rfl
    · cases d.2.2.1.length == 0
      · rfl
      · cases d.2.2.2.1.length == 0
        · rfl
        · cases sEq d.2.2.2.2.1 eS <;> rfl
theorem specVals_ok (l : List V) (h : l.length ≤ LIM) (k : Bool → Res) : spec_l04Vals l k = k (valsB l) := by
  unfold spec_l04Vals spec_l04Vals_l0 valsB
  have := any_loop l (fun i => i) (fun v => !valB v) (step := spec_l04Vals_l0_s l (nI l.length)) ((fun (_ : Unit) => bif decide ((nI l.length) ≥ 1) then k (decide ((nI l.length) ≤ 8)) else k false), (fun (_ : Unit) => k false)) (bif decide ((nI l.length) ≥ 1) then k (decide ((nI l.length) ≤ 8)) else k false) (k false) h (fun i rec hi => by
    show spec_l04Vals_l0_r _ _ _ _ _ _ = _
    unfold spec_l04Vals_l0_r
    unfold LIM at h
    rw [nI_lt hi, cond_true, inb_nat hi, cond_true, nth_nat _ _ _ hi, specVal_eq, wi64_in (n := (i : Int) + 1) (by omega)]) (fun rec => by
    show spec_l04Vals_l0_r _ _ _ _ _ _ = _
    unfold spec_l04Vals_l0_r
    rw [nI_ge, cond_false])
  refine this.trans ?_
  have hall : (l.any fun v => !valB v) = !l.all valB := by rw [List.all_eq_not_any_not]; simp
  rw [hall]
  unfold nI
  cases l.all valB
  · rfl
  · rw [Bool.not_true, cond_false, Bool.true_and]
    by_cases h1 : 1 ≤ l.length
    · rw [decide_eq_true (show (l.length : Int) ≥ 1 by omega), cond_true, decide_eq_true h1, Bool.true_and]
      congr 1
      exact decide_eq_decide.2 (by omega)
    · rw [decide_eq_false (show ¬ (l.length : Int) ≥ 1 by omega), cond_false, decide_eq_false h1, Bool.false_and]
theorem implVals_ok (l : List V) (h : l.length ≤ LIM) (k : Bool → Res) : impl_areVals l k = k (valsB l) := by
  unfold impl_areVals slices_ContainsFunc_Val slices_IndexFunc_Val slices_IndexFunc_Val_l0 valsB
  rw [within_eq]
  have hd : decide (1 ≤ nI l.length ∧ nI l.length ≤ 8) = (decide (1 ≤ l.length) && decide (l.length ≤ 8)) := by
    rw [← Bool.decide_and]
    exact decide_eq_decide.2 (by unfold nI; omega)
  rw [hd]
  cases decide (1 ≤ l.length) && decide (l.length ≤ 8)
  · rw [Bool.and_false]; rfl
  · rw [cond_true, Bool.and_true]
    have := find_loop l (fun i => i) (fun v => !valB v) (step := slices_IndexFunc_Val_l0_s l (nI l.length)) ((fun (_ : Unit) => k (!decide ((-1 : Int) ≥ 0))), (fun (t : Int) => k (!decide (t ≥ 0)))) (fun r => k (!decide (r ≥ 0))) h (fun i rec hi => by
      show slices_IndexFunc_Val_l0_r _ _ _ _ _ _ = _
      unfold slices_IndexFunc_Val_l0_r impl_areVals1
      unfold LIM at h
      rw [nI_lt hi, cond_true, inb_nat hi, cond_true, nth_nat _ _ _ hi, implVal_eq, wi64_in (n := (i : Int) + 1) (by omega)]) (fun rec => by
      show slices_IndexFunc_Val_l0_r _ _ _ _ _ _ = _
      unfold slices_IndexFunc_Val_l0_r
      rw [nI_ge, cond_false])
    refine this.trans ?_
    congr 1
    unfold idxI
    cases hf : l.findIdx? fun v => !valB v with
    | none =>
      rw [List.findIdx?_eq_none_iff] at hf
      symm
      show l.all valB = true
      rw [List.all_eq_true]
      intro v hv
      simpa using hf v hv
    | some i =>
      dsimp only
      rw [decide_eq_true (show (i : Int) ≥ 0 by omega)]
      obtain ⟨hi, hp, _⟩ := List.findIdx?_eq_some_iff_getElem.1 hf
      symm
      show l.all valB = false
      rw [List.all_eq_false]
      exact ⟨l[i], List.getElem_mem _, by simpa using hp⟩
theorem specSt_eq (s : ST) (h : stSm s) (k : Bool → Res) : spec_StmtOk s k = k (stB s) := by
  obtain ⟨m1, m2, m3, m4⟩ := h
  unfold spec_StmtOk stB spec_StmtOk_p0
  have L2 : s.2.2.1.length ≤ LIM := by unfold LIM; omega
  have L3 : s.2.2.2.1.length ≤ LIM := by unfold LIM; omega
  rw [specWord_eq _ (by unfold LIM; omega), nI_zero, nI_zero]
  simp only [specVals_ok _ L2, specVals_ok _ L3, specNoD_eq, specDdl_eq _ m4]
  cases wordB s.2.1
  · rfl
  · rw [Bool.not_true, cond_false, Bool.true_and]
    cases s.1 == 1
    · cases s.1 == 2
      · cases s.1 == 3
        · cases s.1 == 4
          · cases s.1 == 5
            · rfl
            · cases s.2.2.1.length == 0
              · rfl
              · cases s.2.2.2.1.length == 0
                · rfl
                · cases ddlB s.2.2.2.2 <;> rfl
          · cases s.2.2.1.length == 0
            · rfl
            · cases s.2.2.2.1.length == 0 <;> rfl
        · cases valsB s.2.2.1
          · rfl
          · cases s.2.2.2.1.length == 0 <;> rfl
      · cases valsB s.2.2.1
        · rfl
        · cases valsB s.2.2.2.1 <;> rfl
    · cases s.2.2.1.length == 0
      · rfl
      · cases valsB s.2.2.2.1 <;> rfl
theorem ddlB_word {d : D} (h : ddlB d = true) : wordB d.2.1 = true := by
  unfold ddlB at h
  rw [Bool.and_eq_true] at h
  exact h.1
theorem implSt_eq (s : ST) (h : stSm s) (k : Bool → Res) : impl_StmtOk s k = k (stB s) := by
  obtain ⟨m1, m2, m3, m4⟩ := h
  unfold impl_StmtOk stB impl_StmtOk_p0
  have L2 : s.2.2.1.length ≤ LIM := by unfold LIM; omega
  have L3 : s.2.2.2.1.length ≤ LIM := by unfold LIM; omega
  rw [implWord_eq _ (by unfold LIM; omega), nI_zero, nI_zero]
  simp only [implVals_ok _ L2, implVals_ok _ L3, implNoD_eq, implDdl_eq _ m4]
  cases h5 : s.1 == 5
  · rw [cond_false]
    cases wordB s.2.1
    · rfl
    · rw [Bool.not_true, cond_false, Bool.true_and]
      cases s.1 == 1
      · cases s.1 == 2
        · cases s.1 == 3
          · cases s.1 == 4
            · cases noD s.2.2.2.2 <;> rfl
            · cases noD s.2.2.2.2 <;> cases s.2.2.1.length == 0 <;> cases s.2.2.2.1.length == 0 <;> rfl
          · cases noD s.2.2.2.2 <;> cases valsB s.2.2.1 <;> cases s.2.2.2.1.length == 0 <;> rfl
        · cases noD s.2.2.2.2 <;> cases valsB s.2.2.1 <;> cases valsB s.2.2.2.1 <;> rfl
      · cases noD s.2.2.2.2 <;> cases s.2.2.1.length == 0 <;> cases valsB s.2.2.2.1 <;> rfl
  · have e5 : s.1 = 5 := by simpa using h5
    rw [cond_true, e5, show ((5 : Int) == 1) = false from rfl, show ((5 : Int) == 2) = false from rfl, show ((5 : Int) == 3) = false from rfl, show ((5 : Int) == 4) = false from rfl, cond_false, cond_false, cond_false, cond_false, cond_true]
    cases hd : ddlB s.2.2.2.2
    · rw [cond_false]
      cases wordB s.2.1 <;> cases s.2.2.1.length == 0 <;> cases s.2.2.2.1.length == 0 <;> rfl
    · rw [cond_true, sEq_comm s.2.1]
      cases he : sEq s.2.2.2.2.2.1 s.2.1
      · rw [cond_false]
        cases wordB s.2.1 <;> cases s.2.2.1.length == 0 <;> cases s.2.2.2.1.length == 0 <;> rfl
      · have hw := ddlB_word hd
        rw [(sEq_iff _ _).1 he] at hw
        rw [hw]
        cases s.2.2.1.length == 0 <;> cases s.2.2.2.1.length == 0 <;> rfl
end Go.PI.G
namespace Go.PI.G
open Go Go.PI Go.Proofs

def tyN (t : Int) : ByteArray := nth eS [eS, z_bool, z_int, z_text] t
def colW (c : C) : List ByteArray := c.1 :: tyN c.2.1 :: ((bif c.2.2.1 then [z_not] else []) ++ (bif c.2.2.2.1 then [z___2 ++ valT c.2.2.2.2] else []))
def parW (c : C) : List ByteArray := z___3 :: (colW c ++ [z___4])
def ddlW (d : D) : List ByteArray :=
  bif d.1 == 1 then z_create :: d.2.1 :: (d.2.2.1.flatMap parW ++ (z_key :: d.2.2.2.1))
  else bif d.1 == 2 then [z_drop, d.2.1]
  else bif d.1 == 3 then z_add :: d.2.1 :: colW (nth zC d.2.2.1 0)
  else bif d.1 == 4 then [z_out, d.2.1, d.2.2.2.2.1]
  else [z_name, d.2.1, d.2.2.2.2.1, d.2.2.2.2.2]
def stW (s : ST) : List ByteArray :=
  bif s.1 == 1 then z_insert :: s.2.1 :: s.2.2.2.1.map valT
  else bif s.1 == 2 then z_update :: s.2.1 :: (s.2.2.1.map valT ++ (z_to :: s.2.2.2.1.map valT))
  else bif s.1 == 3 then z_delete :: s.2.1 :: s.2.2.1.map valT
  else bif s.1 == 4 then [(⟨#[99, 108, 101, 97, 114]⟩ : ByteArray), s.2.1]
  else ddlW s.2.2.2.2
def ddlT (d : D) : ByteArray := bif ddlB d then joinB (ddlW d) else eS
def stT (s : ST) : ByteArray := bif stB s then joinB (stW s) else eS

/-! ### sizes, blanks -/
theorem tlB_size : (l : List ByteArray) → (B : Nat) → (∀ w ∈ l, w.size ≤ B) → (tlB l).size ≤ l.length * (B + 1)
  | [], B, _ => by show (0 : Nat) ≤ _; omega
  | w :: l, B, h => by
    have h1 := tlB_size l B fun x hx => h x (List.mem_cons_of_mem _ hx)
    have h2 := h w (by simp)
    have e : tlB (w :: l) = spB ++ (w ++ tlB l) := rfl
    have e1 : spB.size = 1 := rfl
    rw [e, ByteArray.size_append, ByteArray.size_append, List.length_cons, Nat.add_mul]
    omega
theorem joinB_size (l : List ByteArray) (B : Nat) (h : ∀ w ∈ l, w.size ≤ B) : (joinB l).size ≤ l.length * (B + 1) := by
  cases l with
  | nil => show (0 : Nat) ≤ _; omega
  | cons w l =>
    have h1 := tlB_size l B fun x hx => h x (List.mem_cons_of_mem _ hx)
    have h2 := h w (by simp)
    have e : joinB (w :: l) = w ++ tlB l := rfl
    rw [e, ByteArray.size_append, List.length_cons, Nat.add_mul]
    omega
theorem colB_word {c : C} (h : colB c = true) : wordB c.1 = true ∧ (1 ≤ c.2.1 ∧ c.2.1 ≤ 3) ∧ valB c.2.2.2.2 = true := by
  unfold colB at h
  simp only [Bool.and_eq_true, decide_eq_true_eq] at h
  exact ⟨h.1, h.2.1, h.2.2.1⟩
theorem tyN_cases {t : Int} (h : 1 ≤ t ∧ t ≤ 3) : (t = 1 ∧ tyN t = z_bool) ∨ (t = 2 ∧ tyN t = z_int) ∨ (t = 3 ∧ tyN t = z_text) := by
  have : t = 1 ∨ t = 2 ∨ t = 3 := by omega
  rcases this with rfl | rfl | rfl
  · exact .inl ⟨rfl, rfl⟩
  · exact .inr (.inl ⟨rfl, rfl⟩)
  · exact .inr (.inr ⟨rfl, rfl⟩)
theorem esc_free : (l : List Int) → isB l → 32 ∉ esc l
  | [], _ => by simp [esc]
  | x :: l, h => by
    have ih := esc_free l fun y hy => h y (List.mem_cons_of_mem _ hy)
    have e : esc (x :: l) = gB x ++ esc l := rfl
    rw [e, List.mem_append, not_or]
    refine ⟨?_, ih⟩
    unfold gB
    cases hp : pB x
    · have hh : ∀ b : Int, h1 b ≠ 32 ∧ h2 b ≠ 32 := fun b => by
        have hz : ∀ i : Int, bt z_0123456789abcdef i ≠ 32 := fun i => by
          unfold bt
          intro hc
          have : ∀ n : Nat, ((z_0123456789abcdef.data.toList.getD n 0).toNat : Int) ≠ 32 := fun n => by
            by_cases hn : n < 16
            · have : ∀ m : Fin 16, ((z_0123456789abcdef.data.toList.getD m.val 0).toNat : Int) ≠ 32 := by decide
              exact this ⟨n, hn⟩
            · rw [List.getD_eq_getElem?_getD, List.getElem?_eq_none (by show 16 ≤ n; omega)]
              simp
          exact this _ hc
        exact ⟨hz _, hz _⟩
      rw [cond_false]
      simp only [List.mem_cons, List.not_mem_nil, or_false, not_or]
      exact ⟨by omega, (hh x).1.symm, (hh x).2.symm⟩
    · rw [cond_true]
      have := (pB_free hp).1
      simp only [List.mem_singleton]
      omega
theorem digs_dig : ∀ n x, x ∈ toBytes (digs n) → 48 ≤ x ∧ x ≤ 57 := by
  intro n
  induction n using Nat.strongRecOn with
  | _ n ih =>
    intro x hx
    by_cases h : n < 10
    · rw [digs_lo h, toBytes_dg _ (by omega), List.mem_singleton] at hx
      omega
    · rw [digs_hi h, toBytes_app, toBytes_dg _ (by omega), List.mem_append] at hx
      rcases hx with hx | hx
      · exact ih (n / 10) (by omega) x hx
      · rw [List.mem_singleton] at hx
        omega
theorem numT_free {n : Int} (h : numB n = true) : free 32 (numT n) := fun hm => by
  rcases numT_bytes h with ⟨_, e⟩ | ⟨_, e⟩
  · rw [e] at hm
    rcases List.mem_cons.1 hm with hm | hm
    · omega
    · have := digs_dig _ _ hm
      omega
  · rw [e] at hm
    have := digs_dig _ _ hm
    omega
theorem valT_free {v : V} (h : valB v = true) : free 32 (valT v) := by
  rcases valT_head h with ⟨rfl, e⟩ | ⟨rfl, e⟩ | ⟨rfl, e⟩ | ⟨n, rfl, hn, e⟩ | ⟨s, rfl, hs, e⟩
  · rw [e]; exact free_of _ _ (by decide)
  · rw [e]; exact free_of _ _ (by decide)
  · rw [e]; exact free_of _ _ (by decide)
  · rw [e]; exact numT_free hn
  · unfold free
    rw [e]
    have := esc_free (toBytes s) (toBytes_isB s)
    simp only [List.mem_cons, List.mem_append, List.not_mem_nil, or_false, not_or]
    exact ⟨by omega, this, by omega⟩
theorem colW_mem {c : C} (h : colB c = true) : ∀ w ∈ colW c, w.size ≤ 101 ∧ free 32 w ∧ w ≠ z___3 ∧ w ≠ z___4 := by
  obtain ⟨h1, h2, h3⟩ := colB_word h
  have hp : ∀ {w : ByteArray} {b x : Int} {xs : List Int}, toBytes w = x :: xs → x ≠ b → ∀ z, toBytes z = [b] → w ≠ z := fun {w b x xs} e hx z hz hw => by
    rw [hw, hz] at e
    exact hx (List.cons.inj e).1.symm
  intro w hw
  unfold colW at hw
  rcases List.mem_cons.1 hw with rfl | hw
  · have hs := wordB_size h1
    refine ⟨by omega, wordB_free h1 (by omega), ?_, ?_⟩ <;> intro he <;> rw [he] at h1 <;> exact absurd h1 (by decide)
  · rcases List.mem_cons.1 hw with rfl | hw
    · rcases tyN_cases h2 with ⟨_, e⟩ | ⟨_, e⟩ | ⟨_, e⟩ <;> rw [e] <;> exact ⟨by decide, free_of _ _ (by decide), fun he => absurd (congrArg toBytes he) (by decide), fun he => absurd (congrArg toBytes he) (by decide)⟩
    · rcases List.mem_append.1 hw with hw | hw
      · cases hn : c.2.2.1
        · rw [hn] at hw; cases hw
        · rw [hn, cond_true, List.mem_singleton] at hw
          rw [hw]
          exact ⟨by decide, free_of _ _ (by decide), fun he => absurd (congrArg toBytes he) (by decide), fun he => absurd (congrArg toBytes he) (by decide)⟩
      · cases hn : c.2.2.2.1
        · rw [hn] at hw; cases hw
        · rw [hn, cond_true, List.mem_singleton] at hw
          rw [hw]
          have e : toBytes (z___2 ++ valT c.2.2.2.2) = 61 :: toBytes (valT c.2.2.2.2) := by rw [toBytes_app]; rfl
          refine ⟨?_, free_app (free_of _ _ (by decide)) (valT_free h3), hp (b := 40) e (by omega) _ rfl, hp (b := 41) e (by omega) _ rfl⟩
          have := valT_size c.2.2.2.2
          have e1 : (z___2).size = 1 := rfl
          rw [ByteArray.size_append]
          omega
theorem key_word {t : T} (h : tabB t = true) : ∀ k ∈ t.2.2, wordB k = true := fun k hk => by
  obtain ⟨_, _, _, _, h5, h6⟩ := tabB_parts h
  have hr := keysUp_range _ _ (by omega) h6 k hk
  unfold colAt idxI at hr
  cases hf : t.2.1.findIdx? fun c => sEq c.1 k with
  | none => rw [hf] at hr; simp at hr
  | some i =>
    obtain ⟨hi, hp, _⟩ := List.findIdx?_eq_some_iff_getElem.1 hf
    have := colsB_get h5 i hi
    rw [← (sEq_iff _ _).1 hp]
    exact (colB_word this).1
theorem colW_len (c : C) : (colW c).length ≤ 4 := by
  unfold colW
  cases c.2.2.1 <;> cases c.2.2.2.1 <;> simp
theorem ddlW_mem {d : D} (h : ddlB d = true) : ∀ w ∈ ddlW d, w.size ≤ 101 ∧ free 32 w := by
  obtain ⟨h0, hc⟩ := ddlB_cases h
  have hw : ∀ {s : ByteArray}, wordB s = true → s.size ≤ 101 ∧ free 32 s := fun {s} hs => ⟨by have := wordB_size hs; omega, wordB_free hs (by omega)⟩
  have hz : ∀ {s : ByteArray}, decide (s.size ≤ 101) = true → (toBytes s).all (fun x => x != 32) = true → s.size ≤ 101 ∧ free 32 s := fun h1 h2 => ⟨of_decide_eq_true h1, free_of _ _ h2⟩
  rcases hc with ⟨t, cs, ks, rfl, hT⟩ | ⟨t, rfl⟩ | ⟨t, c, rfl, hC⟩ | ⟨t, n, rfl, hn⟩ | ⟨t, n, m, rfl, hn, hm⟩
  · intro w hm
    simp only [ddlW, beq_self_eq_true, cond_true] at hm
    rcases List.mem_cons.1 hm with rfl | hm
    · exact hz (by decide) (by decide)
    rcases List.mem_cons.1 hm with rfl | hm
    · exact hw h0
    rcases List.mem_append.1 hm with hm | hm
    · obtain ⟨c, hc, hm⟩ := List.mem_flatMap.1 hm
      obtain ⟨i, hi, rfl⟩ := List.mem_iff_getElem.1 hc
      have hcb := colsB_get (tabB_parts hT).2.2.2.2.1 i hi
      unfold parW at hm
      rcases List.mem_cons.1 hm with rfl | hm
      · exact hz (by decide) (by decide)
      rcases List.mem_append.1 hm with hm | hm
      · have := colW_mem hcb w hm; exact ⟨this.1, this.2.1⟩
      · rw [List.mem_singleton] at hm; subst hm; exact hz (by decide) (by decide)
    · rcases List.mem_cons.1 hm with rfl | hm
      · exact hz (by decide) (by decide)
      · exact hw (key_word hT w hm)
  · intro w hm
    simp only [ddlW, show ((2 : Int) == 1) = false from rfl, show ((2 : Int) == 2) = true from rfl, cond_false, cond_true, List.mem_cons, List.not_mem_nil, or_false] at hm
    rcases hm with rfl | rfl
    · exact hz (by decide) (by decide)
    · exact hw h0
  · intro w hm
    simp only [ddlW, show ((3 : Int) == 1) = false from rfl, show ((3 : Int) == 2) = false from rfl, show ((3 : Int) == 3) = true from rfl, cond_false, cond_true] at hm
    rcases List.mem_cons.1 hm with rfl | hm
    · exact hz (by decide) (by decide)
    rcases List.mem_cons.1 hm with rfl | hm
    · exact hw h0
    · have := colW_mem hC w hm; exact ⟨this.1, this.2.1⟩
  · intro w hm
    simp only [ddlW, show ((4 : Int) == 1) = false from rfl, show ((4 : Int) == 2) = false from rfl, show ((4 : Int) == 3) = false from rfl, show ((4 : Int) == 4) = true from rfl, cond_false, cond_true, List.mem_cons, List.not_mem_nil, or_false] at hm
    rcases hm with rfl | rfl | rfl
    · exact hz (by decide) (by decide)
    · exact hw h0
    · exact hw hn
  · intro w hmm
    simp only [ddlW, show ((5 : Int) == 1) = false from rfl, show ((5 : Int) == 2) = false from rfl, show ((5 : Int) == 3) = false from rfl, show ((5 : Int) == 4) = false from rfl, cond_false, List.mem_cons, List.not_mem_nil, or_false] at hmm
    rcases hmm with rfl | rfl | rfl | rfl
    · exact hz (by decide) (by decide)
    · exact hw h0
    · exact hw hn
    · exact hw hm
theorem stW_mem {s : ST} (h : stB s = true) : ∀ w ∈ stW s, w.size ≤ 101 ∧ free 32 w := by
  obtain ⟨h0, hc⟩ := stB_cases h
  have hw : ∀ {s : ByteArray}, wordB s = true → s.size ≤ 101 ∧ free 32 s := fun {s} hs => ⟨by have := wordB_size hs; omega, wordB_free hs (by omega)⟩
  have hz : ∀ {s : ByteArray}, decide (s.size ≤ 101) = true → (toBytes s).all (fun x => x != 32) = true → s.size ≤ 101 ∧ free 32 s := fun h1 h2 => ⟨of_decide_eq_true h1, free_of _ _ h2⟩
  have hv : ∀ {l : List V}, valsB l = true → ∀ w ∈ l.map valT, w.size ≤ 101 ∧ free 32 w := fun {l} hl w hm => by
    obtain ⟨v, hv, rfl⟩ := List.mem_map.1 hm
    have := valT_size v
    exact ⟨by omega, valT_free ((valsB_parts hl).2.2 v hv)⟩
  rcases hc with ⟨t, r, rfl, hr⟩ | ⟨t, q, r, rfl, hq, hr⟩ | ⟨t, q, rfl, hq⟩ | ⟨t, rfl⟩ | ⟨d, rfl, hd⟩
  · intro w hm
    simp only [stW, beq_self_eq_true, cond_true] at hm
    rcases List.mem_cons.1 hm with rfl | hm
    · exact hz (by decide) (by decide)
    rcases List.mem_cons.1 hm with rfl | hm
    · exact hw h0
    · exact hv hr w hm
  · intro w hm
    simp only [stW, show ((2 : Int) == 1) = false from rfl, show ((2 : Int) == 2) = true from rfl, cond_false, cond_true] at hm
    rcases List.mem_cons.1 hm with rfl | hm
    · exact hz (by decide) (by decide)
    rcases List.mem_cons.1 hm with rfl | hm
    · exact hw h0
    rcases List.mem_append.1 hm with hm | hm
    · exact hv hq w hm
    rcases List.mem_cons.1 hm with rfl | hm
    · exact hz (by decide) (by decide)
    · exact hv hr w hm
  · intro w hm
    simp only [stW, show ((3 : Int) == 1) = false from rfl, show ((3 : Int) == 2) = false from rfl, show ((3 : Int) == 3) = true from rfl, cond_false, cond_true] at hm
    rcases List.mem_cons.1 hm with rfl | hm
    · exact hz (by decide) (by decide)
    rcases List.mem_cons.1 hm with rfl | hm
    · exact hw h0
    · exact hv hq w hm
  · intro w hm
    simp only [stW, show ((4 : Int) == 1) = false from rfl, show ((4 : Int) == 2) = false from rfl, show ((4 : Int) == 3) = false from rfl, show ((4 : Int) == 4) = true from rfl, cond_false, cond_true, List.mem_cons, List.not_mem_nil, or_false] at hm
    rcases hm with rfl | rfl
    · exact hz (by decide) (by decide)
    · exact hw h0
  · intro w hm
    simp only [stW, show ((5 : Int) == 1) = false from rfl, show ((5 : Int) == 2) = false from rfl, show ((5 : Int) == 3) = false from rfl, show ((5 : Int) == 4) = false from rfl, cond_false] at hm
    exact ddlW_mem hd w hm
end Go.PI.G
