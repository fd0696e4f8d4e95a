/-
  The place of a table: what the program and the reference say. Lemmas; no conditions.
-/
import Derived.Test.YtcapkiofiipamaaGTN02
set_option linter.unusedVariables false
set_option linter.unusedSimpArgs false
namespace Go.PI.G
open Go Go.PI Go.Proofs

theorem specTabAt_eq (c : List T) (n : ByteArray) (h : c.length ≤ LIM) (k : Int → Res) : spec_l02At c n k = k (tabAt c n) := by
  unfold spec_l02At spec_l02At_l0
  refine find_loop c (fun i => i) (fun t => sEq t.1 n) (step := spec_l02At_l0_s n c (nI c.length)) _ k h (fun i rec hi => ?_) (fun rec => ?_)
  · show spec_l02At_l0_r n _ _ _ _ _ _ = _
    unfold spec_l02At_l0_r
    unfold LIM at h
    rw [nI_lt hi, cond_true, inb_nat hi, cond_true, nth_nat _ _ _ hi, wi64_in (n := (i : Int) + 1) (by omega)]
  · show spec_l02At_l0_r n _ _ _ _ _ _ = _
    unfold spec_l02At_l0_r
    rw [nI_ge, cond_false]
theorem implTabAt_eq (c : List T) (n : ByteArray) (h : c.length ≤ LIM) (k : Int → Res) : impl_Cat_at c n k = k (tabAt c n) := by
  unfold impl_Cat_at slices_IndexFunc_Table slices_IndexFunc_Table_l0
  refine find_loop c (fun i => i) (fun t => sEq t.1 n) (step := slices_IndexFunc_Table_l0_s c n (nI c.length)) _ k h (fun i rec hi => ?_) (fun rec => ?_)
  · show slices_IndexFunc_Table_l0_r _ n _ _ _ _ _ = _
    unfold slices_IndexFunc_Table_l0_r impl_Cat_at1
    unfold LIM at h
    rw [nI_lt hi, cond_true, inb_nat hi, cond_true, nth_nat _ _ _ hi, wi64_in (n := (i : Int) + 1) (by omega)]
  · show slices_IndexFunc_Table_l0_r _ n _ _ _ _ _ = _
    unfold slices_IndexFunc_Table_l0_r
    rw [nI_ge, cond_false]
theorem tabAt_range (c : List T) (n : ByteArray) : -1 ≤ tabAt c n ∧ tabAt c n < (c.length : Int) := idxI_range _ _
end Go.PI.G
