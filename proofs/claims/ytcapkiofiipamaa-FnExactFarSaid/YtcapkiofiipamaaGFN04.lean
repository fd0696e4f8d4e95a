/-
  Stores and their keys: what the program and the reference say. Lemmas; no conditions.
-/
import Derived.Test.YtcapkiofiipamaaGFL04
import Derived.Test.YtcapkiofiipamaaGFN03
set_option linter.unusedVariables false
set_option linter.unusedSimpArgs false
namespace Go.PI.G
open Go Go.PI Go.Proofs

theorem msr_DB {d : DB} (h : msr yDB d ≤ 1048576) : msr (.slice yT) d.1 ≤ 1048576 ∧ d.1.length ≤ 1048576 ∧ d.2.length ≤ 1048576 ∧ (∀ t ∈ d.1, msr yT t ≤ 1048576) ∧ ∀ l ∈ d.2, l.length ≤ 1048576 := by
  have h1 : msr yDB d = msr (.slice yT) d.1 + msr (.slice (.slice (.slice yV))) d.2 := rfl
  have h2 : msr (.slice yT) d.1 ≤ 1048576 := by omega
  have h3 : msr (.slice (.slice (.slice yV))) d.2 ≤ 1048576 := by omega
  exact ⟨h2, msr_len h2, msr_len h3, fun t ht => msr_mem h2 ht, fun l hl => msr_len (msr_mem h3 hl)⟩
theorem specDb_eq (d : DB) (h : msr yDB d ≤ 1048576) (k : Bool → Res) : spec_DbOk d k = k (dbB d) := by
  obtain ⟨m1, m2, m3, m4, m5⟩ := msr_DB h
  unfold spec_DbOk dbB
  rw [specCat_eq _ m1]
  cases catB d.1
  · rfl
  · rw [Bool.not_true, cond_false, Bool.true_and]
    by_cases hl : d.2.length = d.1.length
    · have hb : (nI d.2.length != nI d.1.length) = false := by rw [hl, bne_f]
      rw [hb, cond_false, decide_eq_true hl, Bool.true_and]
      unfold spec_DbOk_l0
      have := anyI_loop d.1 (fun i => i) (fun i t => !rowsB t (nth [] d.2 (i : Int))) (step := spec_DbOk_l0_s d.1 (nI d.1.length) d) ((fun (_ : Unit) => k true), (fun (_ : Unit) => k false)) (k true) (k false) (by unfold LIM; omega) (fun i rec hi => by
        show spec_DbOk_l0_r _ _ d _ _ _ _ = _
        unfold spec_DbOk_l0_r
        rw [nI_lt hi, cond_true, inb_nat hi, cond_true, inb_nat (hl ▸ hi), cond_true, nth_nat _ _ _ hi, specRows_eq _ (m4 _ (List.getElem_mem hi)), wi64_in (n := (i : Int) + 1) (by omega)]) (fun rec => by
        show spec_DbOk_l0_r _ _ d _ _ _ _ = _
        unfold spec_DbOk_l0_r
        rw [nI_ge, cond_false])
      refine this.trans ?_
      cases anyI (fun i t => !rowsB t (nth [] d.2 (i : Int))) 0 d.1 <;> rfl
    · have hb : (nI d.2.length != nI d.1.length) = true := by unfold nI; simp; omega
      rw [hb, cond_true, decide_eq_false hl, Bool.false_and]
theorem implDb_eq (d : DB) (h : msr yDB d ≤ 1048576) (k : Bool → Res) : impl_DbOk d k = k (dbB d) := by
  obtain ⟨m1, m2, m3, m4, m5⟩ := msr_DB h
  unfold impl_DbOk dbB
  rw [implCat_eq _ m1]
  cases catB d.1
  · rfl
  · rw [Bool.not_true, cond_false, Bool.true_and]
    by_cases hl : d.2.length = d.1.length
    · have hb : (nI d.2.length != nI d.1.length) = false := by rw [hl, bne_f]
      rw [hb, cond_false, decide_eq_true hl, Bool.true_and]
      unfold impl_DbOk_l0
      have := anyI_loop d.1 (fun i => i) (fun i t => !rowsB t (nth [] d.2 (i : Int))) (step := impl_DbOk_l0_s d.1 (nI d.1.length) d) ((fun (_ : Unit) => k true), (fun (_ : Unit) => k false)) (k true) (k false) (by unfold LIM; omega) (fun i rec hi => by
        show impl_DbOk_l0_r _ _ d _ _ _ _ = _
        unfold impl_DbOk_l0_r
        rw [nI_lt hi, cond_true, inb_nat hi, cond_true, inb_nat (hl ▸ hi), cond_true, nth_nat _ _ _ hi, implRows_eq _ (m4 _ (List.getElem_mem hi)), wi64_in (n := (i : Int) + 1) (by omega)]) (fun rec => by
        show impl_DbOk_l0_r _ _ d _ _ _ _ = _
        unfold impl_DbOk_l0_r
        rw [nI_ge, cond_false])
      refine this.trans ?_
      cases anyI (fun i t => !rowsB t (nth [] d.2 (i : Int))) 0 d.1 <;> rfl
    · have hb : (nI d.2.length != nI d.1.length) = true := by unfold nI; simp; omega
      rw [hb, cond_true, decide_eq_false hl, Bool.false_and]
theorem dbB_parts {d : DB} (h : dbB d = true) : catB d.1 = true ∧ d.2.length = d.1.length ∧ ∀ (i : Nat) (hi : i < d.1.length) (hi' : i < d.2.length), rowsB d.1[i] d.2[i] = true := by
  unfold dbB at h
  simp only [Bool.and_eq_true, decide_eq_true_eq, Bool.not_eq_true'] at h
  refine ⟨h.1, h.2.1, fun i hi hi' => ?_⟩
  have := anyI_false d.1 0 h.2.2 i hi
  rw [Bool.not_eq_false', show 0 + i = i by omega, nth_nat _ _ _ hi'] at this
  exact this
end Go.PI.G
