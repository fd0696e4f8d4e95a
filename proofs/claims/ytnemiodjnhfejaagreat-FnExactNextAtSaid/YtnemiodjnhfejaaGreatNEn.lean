/-
  Program's code interpreted over typed values; printed texts; plain laws. No conditions.
-/
import Derived.Test.YtnemiodjnhfejaaGreatNEi
import Derived.Test.YtnemiodjnhfejaaGreatNEm
set_option linter.unusedVariables false
set_option linter.unusedSimpArgs false
namespace Go.PI.G
open Go Go.PI Go.Proofs
theorem jpJ {n:Nat} (h:(nI n==0)=false):inb 0 n=true:=by
 have:n≠0:=by
  intro e
  rw [e] at h
  cases h
 exact ZaK (by omega) (by omega)
theorem gt0 (n:Nat):decide (nI n>0)= !(nI n==0):=by
 cases n with
 | zero=>rfl
 | succ n=>
  have:(nI (n+1)==0)=false:=by unfold nI;simp;omega
  rw [this,decide_eq_true (by unfold nI;omega)]
  rfl
theorem jmJ (l:List RC) (h:l.length<=1048576) (b:∀ r∈l,j15 r.2.2) (a:Int) (k:Int->Res):j86 l a k=k (jgB l a):=by
 unfold j86 jgB
 rw [jmO l h b]
 generalize j76 l a=w
 cases e:(nI w.length)==0
 ·rw [cond_false,cond_false,jpJ e];rfl
 ·rfl
theorem jmz (l:List RC) (h:l.length<=1048576) (b:∀ r∈l,j15 r.2.2) (a:Int) (k:Int->Res):j7V l a k=k (jgB l a):=by
 unfold j7V jgB
 rw [jmC l h b]
 generalize j76 l a=w
 rw [gt0]
 cases e:(nI w.length)==0
 ·rw [cond_false,Bool.not_false,cond_true,jpJ e];rfl
 ·rfl
theorem jor (d:List RC) (j:Wf (.slice yRC) d) (i:Int) (w1:Wf (.int .i64) i) (k:Bool->Res):j23 d i k=k true:=by
 unfold j23
 rw [jof d 1048576 (by omega) (by omega) j]
 by_cases g:((msr (.slice yRC) d:Nat):Int)<=1048576
 rotate_left
 ·rw [Zaz g];rfl
 have b:msr (.slice yRC) d<=1048576:=by omega
 obtain ⟨f,h⟩:=joN b
 rw [ZaA g,decide_eq_false (by omega),cond_false,jgy d b,jmJ d f h,jgy d b,jmz d f h,ZaO,cond_false,jgy d b,jnQ d b]
 rfl
end Go.PI.G
