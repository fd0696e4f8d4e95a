/-
  TableSum: the plain law. No conditions.
-/
import Derived.Test.YtcapkiofiipamaaGTXTableSum
import Derived.Test.YtcapkiofiipamaaGTN04
import Derived.Test.YtcapkiofiipamaaGTN02t
import Derived.Test.YtcapkiofiipamaaGTN05
import Derived.Test.YtcapkiofiipamaaGTNTDb
set_option linter.unusedVariables false
set_option linter.unusedSimpArgs false
namespace Go.PI.G
open Go Go.PI Go.Proofs

def tsum (d : DB) (n : ByteArray) : Int := bif dbB d && !decide (tabAt d.1 n < 0) then (nth [] d.2 (tabAt d.1 n)).foldl (fun a r => Int.tmod (wi64 (a + sumT (toBytes (rowT r)))) 16777213) 0 else -1
theorem specTSum_eq (d : DB) (h : msr yDB d ≤ 1048576) (n : ByteArray) (k : Int → Res) : spec_TableSum d n k = k (tsum d n) := by
  obtain ⟨m1, m2, m3, m4, m5⟩ := msr_DB h
  unfold spec_TableSum tsum
  rw [specTabAt_eq _ _ (by unfold LIM; omega), specDb_eq d h]
  cases hd : dbB d
  · rfl
  · rw [Bool.not_true, cond_false, Bool.true_and]
    have hr := tabAt_range d.1 n
    by_cases h0 : tabAt d.1 n < 0
    · rw [decide_eq_true h0]; rfl
    · obtain ⟨q1, q2, q3⟩ := dbB_parts hd
      obtain ⟨i, hi⟩ : ∃ i : Nat, tabAt d.1 n = (i : Int) := ⟨(tabAt d.1 n).toNat, by omega⟩
      have h1 : i < d.1.length := by omega
      have h2 : i < d.2.length := by omega
      have hrows := q3 i h1 h2
      obtain ⟨r1, r2, r3⟩ := rowsB_parts hrows
      have hp := tabB_parts r1
      rw [decide_eq_false h0, cond_false, Bool.not_false, cond_true, hi, inb_nat h2, cond_true, nth_nat _ _ _ h2]
      unfold spec_TableSum_l0
      exact foldl_loop d.2[i] (fun i a => (a, i)) (fun a r => Int.tmod (wi64 (a + sumT (toBytes (rowT r)))) 16777213) (fun _ _ => True) (step := spec_TableSum_l0_s d.2[i] (nI d.2[i].length)) (fun a => k a) (fun a => k a) 0 (by unfold LIM; omega) trivial (fun _ _ _ _ => trivial) (fun j a rec hj _ => by
        show spec_TableSum_l0_r _ _ _ _ _ _ = _
        unfold spec_TableSum_l0_r
        dsimp only
        have hl := rowB_len (r3 _ (List.getElem_mem hj))
        rw [nI_lt hj, cond_true, inb_nat hj, cond_true, nth_nat _ _ _ hj, specRowSum_eq _ (by omega), wi64_in (n := (j : Int) + 1) (by omega)]) (fun a rec _ => by
        show spec_TableSum_l0_r _ _ _ _ _ _ = _
        unfold spec_TableSum_l0_r
        dsimp only
        rw [nI_ge, cond_false])
theorem implTSum_eq (d : DB) (h : msr yDB d ≤ 1048576) (n : ByteArray) (k : Int → Res) : impl_TableSum d n k = k (tsum d n) := by
  obtain ⟨m1, m2, m3, m4, m5⟩ := msr_DB h
  unfold impl_TableSum tsum
  rw [implTabAt_eq _ _ (by unfold LIM; omega), implDb_eq d h]
  cases hd : dbB d
  · rfl
  · rw [Bool.not_true, cond_false, Bool.true_and]
    have hr := tabAt_range d.1 n
    by_cases h0 : tabAt d.1 n < 0
    · rw [decide_eq_true h0]; rfl
    · obtain ⟨q1, q2, q3⟩ := dbB_parts hd
      obtain ⟨i, hi⟩ : ∃ i : Nat, tabAt d.1 n = (i : Int) := ⟨(tabAt d.1 n).toNat, by omega⟩
      have h1 : i < d.1.length := by omega
      have h2 : i < d.2.length := by omega
      have hrows := q3 i h1 h2
      obtain ⟨r1, r2, r3⟩ := rowsB_parts hrows
      have hp := tabB_parts r1
      rw [decide_eq_false h0, cond_false, Bool.not_false, cond_true, hi, inb_nat h2, cond_true, nth_nat _ _ _ h2]
      unfold impl_TableSum_l0
      exact foldl_loop d.2[i] (fun i a => (a, i)) (fun a r => Int.tmod (wi64 (a + sumT (toBytes (rowT r)))) 16777213) (fun _ _ => True) (step := impl_TableSum_l0_s d.2[i] (nI d.2[i].length)) (fun a => k a) (fun a => k a) 0 (by unfold LIM; omega) trivial (fun _ _ _ _ => trivial) (fun j a rec hj _ => by
        show impl_TableSum_l0_r _ _ _ _ _ _ = _
        unfold impl_TableSum_l0_r
        dsimp only
        have hl := rowB_len (r3 _ (List.getElem_mem hj))
        rw [nI_lt hj, cond_true, inb_nat hj, cond_true, nth_nat _ _ _ hj, implRowSum_eq _ (by omega), wi64_in (n := (j : Int) + 1) (by omega)]) (fun a rec _ => by
        show impl_TableSum_l0_r _ _ _ _ _ _ = _
        unfold impl_TableSum_l0_r
        dsimp only
        rw [nI_ge, cond_false])

theorem row_FnExactTableSum (x0 : DB) (w0 : Wf yDB x0) (x1 : ByteArray) (w1 : Wf .str x1) (k : Bool → Res) : laws_FnExactTableSum x0 x1 k = k true := by
  unfold laws_FnExactTableSum
  by_cases hs : nI x1.size > 1048576
  · rw [decide_eq_true hs]; rfl
  rw [decide_eq_false hs, cond_false, szDb_eq x0 1048576 (by omega) (by omega) w0]
  by_cases hm : ((msr yDB x0 : Nat) : Int) ≤ 1048576
  rotate_left
  · rw [szR_neg hm]; rfl
  have hm' : msr yDB x0 ≤ 1048576 := by omega
  rw [szR_pos hm, decide_eq_false (by omega), cond_false, toDb_eq x0 hm', specTSum_eq x0 hm', toDb_eq x0 hm', implTSum_eq x0 hm', bne_f, cond_false, toDb_eq x0 hm', eqDb_eq x0 hm', Bool.not_true, cond_false]
end Go.PI.G
