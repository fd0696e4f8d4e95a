/-
  Keys: the plain law. No conditions.
-/
import Derived.Test.YtcapkiofiipamaaGKXKeys
import Derived.Test.YtcapkiofiipamaaN04
import Derived.Test.YtcapkiofiipamaaNTDb
import Derived.Test.YtcapkiofiipamaaNTValSS
set_option linter.unusedVariables false
set_option linter.unusedSimpArgs false
namespace Go.PI.G
open Go Go.PI Go.Proofs

theorem row_FnExactKeys (x0 : DB) (w0 : Wf yDB x0) (x1 : ByteArray) (w1 : Wf .str x1) (k : Bool → Res) : laws_FnExactKeys x0 x1 k = k true := by
  unfold laws_FnExactKeys
  by_cases hs : nI x1.size > 1048576
  · rw [decide_eq_true hs]; rfl
  rw [decide_eq_false hs, cond_false, szDb_eq x0 1048576 (by omega) (by omega) w0]
  by_cases hm : ((msr yDB x0 : Nat) : Int) ≤ 1048576
  rotate_left
  · rw [szR_neg hm]; rfl
  have hm' : msr yDB x0 ≤ 1048576 := by omega
  rw [szR_pos hm, decide_eq_false (by omega), cond_false, toDb_eq x0 hm', specKeys_eq x0 hm', toDb_eq x0 hm', implKeys_eq x0 hm']
  have hq := keysV_msr x0 x1
  have hw := wgt_small (τ := .slice (.slice yV)) (by decide) hq
  have hw0 := wgt_small (τ := yDB) (by decide) hm'
  have hw1 := wgtT_le_wgt yDB x0
  have kd : (1 : Int) + ((wgtT yDB x0 : Nat) : Int) ≤ 4294967296 := by omega
  have kv : (1 : Int) + ((wgt (.slice (.slice yV)) (keysV x0 x1) : Nat) : Int) ≤ 4294967296 := by omega
  rw [eqValSS_eq _ hq, Bool.not_true, cond_false, toDb_eq x0 hm', eqDb_eq x0 hm', Bool.not_true, cond_false, markDb_eq x0 1 hm' (by omega) kd]
  unfold laws_FnExactKeys_p0
  rw [decide_eq_false (by omega), cond_false, eqValSS_eq _ hq, Bool.not_true, cond_false, markValSS_eq _ 1 hq (by omega) kv, heldValSS_eq _ 1 hq (by omega) kv, decide_eq_false (by omega), cond_false, bne_f, cond_false, toDb_eq x0 hm', implKeys_eq x0 hm', eqValSS_eq _ hq, Bool.not_true, cond_false, heldValSS_eq _ 1 hq (by omega) kv, decide_eq_false (by omega), cond_false, bne_f, cond_false]
end Go.PI.G
