/-
  Printed texts and plain laws. No conditions.
-/
import Derived.Test.Ytiieddiheadocaasg
import Derived.Test.Ytiieddiheadocaasl
import Derived.Test.Ytiieddiheadocaask
import Derived.Test.Ytiieddiheadocaasi
import Derived.Test.Ytiieddiheadocaash
set_option linter.unusedVariables false
set_option linter.unusedSimpArgs false
namespace Go.PI.G
open Go Go.PI Go.Proofs

abbrev SP := Int × RC × Int × Int × Int
abbrev zSP : SP := (0, (0, 0, 0, eS, [], [], 0, eS, [], [], eS, eS), 0, 0, 0)
def noRC (r : RC) : Bool := (r.1 == 0) && ((r.2.1 == 0) && noST r.2.2)
def okN (n : Int) : Bool := decide (n ≥ 0) && numB n
/-- A step's word, and the numbers behind it. -/
def stepN (s : SP) : ByteArray × List Int :=
  bif s.1 == 2 then (z_send, [s.2.2.1])
  else bif s.1 == 4 then (z_take, [s.2.2.1])
  else bif s.1 == 5 then (z_save, [])
  else bif s.1 == 6 then (z_fall, [])
  else bif s.1 == 7 then (z_boot, [])
  else bif s.1 == 3 then (bif s.2.2.1 == 1 then (z_lose, [s.2.2.2.1]) else bif s.2.2.1 == 2 then (z_twice, [s.2.2.2.1]) else bif s.2.2.1 == 3 then (z_late, [s.2.2.2.1]) else bif s.2.2.1 == 4 then (z_cut, [s.2.2.2.1, s.2.2.2.2]) else (eS, []))
  else (eS, [])
/-- Is the rest nothing? -/
def rest0 (s : SP) : Bool :=
  bif s.1 == 2 then (s.2.2.2.1 == 0) && (s.2.2.2.2 == 0)
  else bif s.1 == 4 then (s.2.2.2.1 == 0) && (s.2.2.2.2 == 0)
  else bif s.1 == 3 then (bif s.2.2.1 == 4 then true else s.2.2.2.2 == 0)
  else (s.2.2.1 == 0) && ((s.2.2.2.1 == 0) && (s.2.2.2.2 == 0))
def stepB (s : SP) : Bool := bif s.1 == 1 then recB s.2.1 && ((s.2.2.1 == 0) && ((s.2.2.2.1 == 0) && (s.2.2.2.2 == 0))) else (!sEq (stepN s).1 eS) && (noRC s.2.1 && (rest0 s && (stepN s).2.all okN))
def stepW (s : SP) : List ByteArray := bif s.1 == 1 then (⟨#[115, 114, 99]⟩ : ByteArray) :: recW s.2.1 else (stepN s).1 :: (stepN s).2.map numT
def stepT (s : SP) : ByteArray := bif stepB s then joinB (stepW s) else eS
theorem okN_0 : okN 0 = true := by decide
theorem numT_e (n : Int) : sNe (numT n) eS = numB n := by
  cases h : numB n
  · rw [numT_off h, sNe_self]
  · obtain ⟨x, xs, e, _⟩ := numT_head h
    exact sNe_t (by rw [e]; exact List.cons_ne_nil _ _)
theorem specNumS (n : Int) (K : ByteArray → Bool → Res) : spec_l20Num n K = K (z___1 ++ numT n) (okN n) := by
  unfold spec_l20Num okN
  have := numT_size n
  rw [specNum_eq, lim_of (by unfold LIM; omega), cond_true, numT_e]
  cases decide (n ≥ 0) <;> rfl
theorem specNoRC_eq (r : RC) (k : Bool → Res) : spec_l20Rec r k = k (noRC r) := by
  unfold spec_l20Rec noRC
  rw [specNoST_eq]
  cases r.1 == 0
  · rfl
  · cases r.2.1 == 0 <;> rfl
theorem recJ_head {r : RC} (h : recB r = true) : sEq (joinB (recW r)) eS = false := by
  refine sEq_f ?_
  have e : joinB (recW r) = kindN r.1 ++ tlB (numT r.2.1 :: (bif r.1 == 2 then stW r.2.2 else [])) := rfl
  rw [e, toBytes_app]
  rcases kind_cases (recB_parts h).1 with ⟨_, e⟩ | ⟨_, e⟩ | ⟨_, e⟩ | ⟨_, e⟩ <;> rw [e] <;> exact List.cons_ne_nil _ _
theorem srcJ (r : RC) : z_src_ ++ joinB (recW r) = joinB ((⟨#[115, 114, 99]⟩ : ByteArray) :: recW r) := by
  have q1 : (z_src_ : ByteArray) = (⟨#[115, 114, 99]⟩ : ByteArray) ++ spB := toBytes_inj (by rw [toBytes_app]; rfl)
  show _ = (⟨#[115, 114, 99]⟩ : ByteArray) ++ tlB (recW r)
  rw [← sp_join (by unfold recW; exact List.cons_ne_nil _ _), q1, ByteArray.append_assoc]
theorem recT_off {r : RC} (h : recB r = false) : recT r = eS := by unfold recT; rw [h]; rfl
theorem recT_on {r : RC} (h : recB r = true) : recT r = joinB (recW r) := by unfold recT; rw [h]; rfl
theorem w1 (w a : ByteArray) : w ++ (z___1 ++ a) = joinB [w, a] := by
  show _ = w ++ (spB ++ (a ++ eS))
  rw [eS_app]; rfl
theorem w2 (w a b : ByteArray) : (w ++ (z___1 ++ a)) ++ (z___1 ++ b) = joinB [w, a, b] := by
  show _ = w ++ (spB ++ (a ++ (spB ++ (b ++ eS))))
  rw [eS_app]
  simp only [ByteArray.append_assoc]
  rfl
theorem w0 (w : ByteArray) : w = joinB [w] := (eS_app w).symm
theorem stepT_1 {s : SP} (h : s.1 = 1) (hc : (recB s.2.1 && ((s.2.2.1 == 0) && ((s.2.2.2.1 == 0) && (s.2.2.2.2 == 0)))) = true) : stepT s = z_src_ ++ recT s.2.1 := by
  have e : (s.1 == 1) = true := by simp [h]
  unfold stepT stepB stepW
  rw [e, cond_true, cond_true, hc, cond_true, recT_on (by rw [Bool.and_eq_true] at hc; exact hc.1), srcJ]
theorem stepT_1f {s : SP} (h : s.1 = 1) (hc : (recB s.2.1 && ((s.2.2.1 == 0) && ((s.2.2.2.1 == 0) && (s.2.2.2.2 == 0)))) = false) : stepT s = eS := by
  have e : (s.1 == 1) = true := by simp [h]
  unfold stepT stepB
  rw [e, cond_true, hc, cond_false]
theorem stepT_n {s : SP} (h : s.1 ≠ 1) : stepT s = bif (!sEq (stepN s).1 eS) && (noRC s.2.1 && (rest0 s && (stepN s).2.all okN)) then joinB ((stepN s).1 :: (stepN s).2.map numT) else eS := by
  have e : (s.1 == 1) = false := by simp [h]
  unfold stepT stepB stepW
  rw [e, cond_false, cond_false]
theorem specStep_eq (s : SP) (hs : stSm s.2.1.2.2) (k : ByteArray → Res) : spec_StepText s k = k (stepT s) := by
  unfold spec_StepText
  by_cases h1 : s.1 = 1
  · rw [show (s.1 == 1) = true by simp [h1], cond_true, specRecT_eq _ hs]
    have hrs := recT_size hs
    unfold spec_StepText_p0
    have s1 : (z_src_).size = 4 := rfl
    cases hb : recB s.2.1
    · rw [recT_off hb, sEq_self, cond_true, stepT_1f h1 (by rw [hb]; rfl)]
      rfl
    · cases hc : (s.2.2.1 == 0) && ((s.2.2.2.1 == 0) && (s.2.2.2.2 == 0))
      · rw [stepT_1f h1 (by rw [hb, hc]; rfl), recT_on hb, recJ_head hb, cond_false]
        unfold bne
        cases h2 : s.2.2.1 == 0
        · rfl
        · cases h3 : s.2.2.2.1 == 0
          · rfl
          · cases h4 : s.2.2.2.2 == 0
            · rfl
            · rw [h2, h3, h4] at hc; cases hc
      · rw [stepT_1 h1 (by rw [hb, hc]; rfl)]
        simp only [Bool.and_eq_true] at hc
        have e : sEq (recT s.2.1) eS = false := by rw [recT_on hb]; exact recJ_head hb
        unfold bne
        rw [e, hc.1, hc.2.1, hc.2.2]
        dsimp only [Bool.not_true, cond_false]
        rw [lim_of (by unfold LIM; omega)]
        rfl
  · rw [show (s.1 == 1) = false by simp [h1], cond_false, stepT_n h1]
    simp only [specNumS]
    have hp1 : ∀ (w : ByteArray) (x y z : Bool) (K : Bool → Res), spec_StepText_p1 w x y z s K = K (!((!sEq w eS) && (noRC s.2.1 && (x && (y && z))))) := fun w x y z K => by
      unfold spec_StepText_p1
      rw [specNoRC_eq]
      cases sEq w eS
      · cases noRC s.2.1
        · rfl
        · cases x
          · rfl
          · cases y <;> rfl
      · rfl
    have hA := numT_size s.2.2.1
    have hB := numT_size s.2.2.2.1
    have hC := numT_size s.2.2.2.2
    have s1 : (z___1).size = 1 := rfl
    -- a word, one number
    have one : ∀ (w : ByteArray), w.size ≤ 10 → sEq w eS = false → spec_StepText_p1 w (okN s.2.2.1) (okN s.2.2.2.1) (okN s.2.2.2.2) s (fun t1 => bif t1 then k eS else spec_StepText_p2 1 s (fun _ => spec_StepText_p3 w 1 (z___1 ++ numT s.2.2.1) s (fun _ => spec_StepText_p4 w 1 (z___1 ++ numT s.2.2.2.1) (z___1 ++ numT s.2.2.2.2) s (fun _ => bif ((1 : Int) == 2) then (bif s.2.2.2.2 == 0 then (bif lim (w.size + (z___1 ++ numT s.2.2.2.1).size) then k (w ++ (z___1 ++ numT s.2.2.2.1)) else none) else k eS) else k eS) (fun _ => k ((w ++ (z___1 ++ numT s.2.2.2.1)) ++ (z___1 ++ numT s.2.2.2.2)))) (fun _ => k (w ++ (z___1 ++ numT s.2.2.1)))) (fun _ => k w)) =
        k (bif noRC s.2.1 && (((s.2.2.2.1 == 0) && (s.2.2.2.2 == 0)) && okN s.2.2.1) then joinB [w, numT s.2.2.1] else eS) := fun w hw hne => by
      rw [hp1, hne, Bool.not_false, Bool.true_and, ← w1]
      unfold spec_StepText_p2 spec_StepText_p3 spec_StepText_p4
      rw [show ((1 : Int) == 0) = false from rfl, show ((1 : Int) == 1) = true from rfl, show ((1 : Int) == 2) = false from rfl]
      simp only [cond_false, cond_true]
      rw [lim_of (by rw [ByteArray.size_append]; unfold LIM; omega), cond_true]
      cases noRC s.2.1
      · rfl
      · cases ha : okN s.2.2.1
        · rw [Bool.and_false, Bool.and_false]; rfl
        · cases hb0 : s.2.2.2.1 == 0
          · cases okN s.2.2.2.1
            · rfl
            · cases okN s.2.2.2.2 <;> rfl
          · have e1 : s.2.2.2.1 = 0 := by simpa using hb0
            cases hc0 : s.2.2.2.2 == 0
            · cases okN s.2.2.2.1
              · rfl
              · cases okN s.2.2.2.2 <;> rfl
            · have e2 : s.2.2.2.2 = 0 := by simpa using hc0
              rw [e1, e2, okN_0]
              rfl
    -- a word alone
    have zer : ∀ (w : ByteArray), sEq w eS = false → spec_StepText_p1 w (okN s.2.2.1) (okN s.2.2.2.1) (okN s.2.2.2.2) s (fun t1 => bif t1 then k eS else spec_StepText_p2 0 s (fun _ => spec_StepText_p3 w 0 (z___1 ++ numT s.2.2.1) s (fun _ => spec_StepText_p4 w 0 (z___1 ++ numT s.2.2.2.1) (z___1 ++ numT s.2.2.2.2) s (fun _ => bif ((0 : Int) == 2) then (bif s.2.2.2.2 == 0 then (bif lim (w.size + (z___1 ++ numT s.2.2.2.1).size) then k (w ++ (z___1 ++ numT s.2.2.2.1)) else none) else k eS) else k eS) (fun _ => k ((w ++ (z___1 ++ numT s.2.2.2.1)) ++ (z___1 ++ numT s.2.2.2.2)))) (fun _ => k (w ++ (z___1 ++ numT s.2.2.1)))) (fun _ => k w)) =
        k (bif noRC s.2.1 && (((s.2.2.1 == 0) && ((s.2.2.2.1 == 0) && (s.2.2.2.2 == 0))) && true) then joinB [w] else eS) := fun w hne => by
      rw [hp1, hne, Bool.not_false, Bool.true_and, ← w0]
      unfold spec_StepText_p2 spec_StepText_p3 spec_StepText_p4
      rw [show ((0 : Int) == 0) = true from rfl, show ((0 : Int) == 1) = false from rfl, show ((0 : Int) == 2) = false from rfl]
      simp only [cond_false, cond_true]
      cases noRC s.2.1
      · rfl
      · cases ha0 : s.2.2.1 == 0
        · cases okN s.2.2.1
          · rfl
          · cases okN s.2.2.2.1
            · rfl
            · cases okN s.2.2.2.2 <;> rfl
        · cases hb0 : s.2.2.2.1 == 0
          · cases okN s.2.2.1
            · rfl
            · cases okN s.2.2.2.1
              · rfl
              · cases okN s.2.2.2.2 <;> rfl
          · cases hc0 : s.2.2.2.2 == 0
            · cases okN s.2.2.1
              · rfl
              · cases okN s.2.2.2.1
                · rfl
                · cases okN s.2.2.2.2 <;> rfl
            · rw [show s.2.2.1 = 0 by simpa using ha0, show s.2.2.2.1 = 0 by simpa using hb0, show s.2.2.2.2 = 0 by simpa using hc0, okN_0]
              rfl
    unfold spec_l20Word stepN rest0
    by_cases h2 : s.1 = 2
    · rw [h2]
      refine (one z_send (by decide) (sEq_f (by decide))).trans ?_
      rw [show ((2 : Int) == 2) = true from rfl, cond_true, cond_true]
      rw [sEq_f (show toBytes z_send ≠ toBytes eS by decide)]
      simp
    by_cases h4 : s.1 = 4
    · rw [h4]
      refine (one z_take (by decide) (sEq_f (by decide))).trans ?_
      rw [show ((4 : Int) == 2) = false from rfl, show ((4 : Int) == 4) = true from rfl, cond_false, cond_true, cond_false, cond_true]
      rw [sEq_f (show toBytes z_take ≠ toBytes eS by decide)]
      simp
    by_cases h5 : s.1 = 5
    · rw [h5]
      refine (zer z_save (sEq_f (by decide))).trans ?_
      rw [show ((5 : Int) == 2) = false from rfl, show ((5 : Int) == 4) = false from rfl, show ((5 : Int) == 5) = true from rfl, show ((5 : Int) == 3) = false from rfl]
      simp only [cond_false, cond_true]
      rw [sEq_f (show toBytes z_save ≠ toBytes eS by decide)]
      rfl
    by_cases h6 : s.1 = 6
    · rw [h6]
      refine (zer z_fall (sEq_f (by decide))).trans ?_
      rw [show ((6 : Int) == 2) = false from rfl, show ((6 : Int) == 4) = false from rfl, show ((6 : Int) == 5) = false from rfl, show ((6 : Int) == 6) = true from rfl, show ((6 : Int) == 3) = false from rfl]
      simp only [cond_false, cond_true]
      rw [sEq_f (show toBytes z_fall ≠ toBytes eS by decide)]
      rfl
    by_cases h7 : s.1 = 7
    · rw [h7]
      refine (zer z_boot (sEq_f (by decide))).trans ?_
      rw [show ((7 : Int) == 2) = false from rfl, show ((7 : Int) == 4) = false from rfl, show ((7 : Int) == 5) = false from rfl, show ((7 : Int) == 6) = false from rfl, show ((7 : Int) == 7) = true from rfl, show ((7 : Int) == 3) = false from rfl]
      simp only [cond_false, cond_true]
      rw [sEq_f (show toBytes z_boot ≠ toBytes eS by decide)]
      rfl
    have g2 : (s.1 == 2) = false := by simp [h2]
    have g4 : (s.1 == 4) = false := by simp [h4]
    have g5 : (s.1 == 5) = false := by simp [h5]
    have g6 : (s.1 == 6) = false := by simp [h6]
    have g7 : (s.1 == 7) = false := by simp [h7]
    rw [g2, g4, g5, g6, g7]
    simp only [cond_false]
    have non : ∀ n : Int, spec_StepText_p1 eS (okN s.2.2.1) (okN s.2.2.2.1) (okN s.2.2.2.2) s (fun t1 => bif t1 then k eS else spec_StepText_p2 n s (fun _ => spec_StepText_p3 eS n (z___1 ++ numT s.2.2.1) s (fun _ => spec_StepText_p4 eS n (z___1 ++ numT s.2.2.2.1) (z___1 ++ numT s.2.2.2.2) s (fun _ => bif (n == 2) then (bif s.2.2.2.2 == 0 then (bif lim (eS.size + (z___1 ++ numT s.2.2.2.1).size) then k (eS ++ (z___1 ++ numT s.2.2.2.1)) else none) else k eS) else k eS) (fun _ => k ((eS ++ (z___1 ++ numT s.2.2.2.1)) ++ (z___1 ++ numT s.2.2.2.2)))) (fun _ => k (eS ++ (z___1 ++ numT s.2.2.1)))) (fun _ => k eS)) = k eS := fun n => by
      rw [hp1, sEq_self]
      rfl
    by_cases h3 : s.1 = 3
    · rw [show (s.1 != 3) = false by simp [h3], show (s.1 == 3) = true by simp [h3]]
      simp only [cond_false, cond_true]
      by_cases hA1 : 1 ≤ s.2.2.1 ∧ s.2.2.1 ≤ 4
      · rw [decide_eq_false (show ¬ s.2.2.1 < 1 by omega), decide_eq_false (show ¬ s.2.2.1 > 4 by omega), inb_of (show 0 ≤ s.2.2.1 by omega) (show s.2.2.1 < ((5 : Nat) : Int) by omega)]
        simp only [cond_false, cond_true]
        have hokA : okN s.2.2.1 = true := by
          unfold okN numB
          rw [decide_eq_true (show s.2.2.1 ≥ 0 by omega), decide_eq_true (show -1099511627775 ≤ s.2.2.1 ∧ s.2.2.1 ≤ 1099511627775 by omega)]
          rfl
        rw [hokA]
        -- a word, one number or two
        have two : ∀ (w : ByteArray), w.size ≤ 10 → sEq w eS = false → spec_StepText_p1 w true (okN s.2.2.2.1) (okN s.2.2.2.2) s (fun t1 => bif t1 then k eS else spec_StepText_p2 2 s (fun _ => spec_StepText_p3 w 2 (z___1 ++ numT s.2.2.1) s (fun _ => spec_StepText_p4 w 2 (z___1 ++ numT s.2.2.2.1) (z___1 ++ numT s.2.2.2.2) s (fun _ => bif ((2 : Int) == 2) then (bif s.2.2.2.2 == 0 then (bif lim (w.size + (z___1 ++ numT s.2.2.2.1).size) then k (w ++ (z___1 ++ numT s.2.2.2.1)) else none) else k eS) else k eS) (fun _ => k ((w ++ (z___1 ++ numT s.2.2.2.1)) ++ (z___1 ++ numT s.2.2.2.2)))) (fun _ => k (w ++ (z___1 ++ numT s.2.2.1)))) (fun _ => k w)) =
            k (bif s.2.2.1 == 4 then (bif noRC s.2.1 && (okN s.2.2.2.1 && okN s.2.2.2.2) then joinB [w, numT s.2.2.2.1, numT s.2.2.2.2] else eS) else bif noRC s.2.1 && ((s.2.2.2.2 == 0) && okN s.2.2.2.1) then joinB [w, numT s.2.2.2.1] else eS) := fun w hw hne => by
          rw [hp1, hne, Bool.not_false, Bool.true_and, Bool.true_and, ← w1, ← w2]
          unfold spec_StepText_p2 spec_StepText_p3 spec_StepText_p4
          rw [show ((2 : Int) == 0) = false from rfl, show ((2 : Int) == 1) = false from rfl, show ((2 : Int) == 2) = true from rfl]
          simp only [cond_false, cond_true]
          rw [lim_of (show w.size + (z___1 ++ numT s.2.2.2.1).size ≤ LIM by rw [ByteArray.size_append]; unfold LIM; omega), cond_true, cond_true, lim_of (by simp only [ByteArray.size_append]; unfold LIM; omega), cond_true]
          cases noRC s.2.1
          · cases s.2.2.1 == 4 <;> rfl
          · cases okN s.2.2.2.1
            · rw [Bool.and_false]
              cases s.2.2.1 == 4 <;> rfl
            · cases hc : s.2.2.2.2 == 0
              · cases okN s.2.2.2.2 <;> cases s.2.2.1 == 4 <;> rfl
              · rw [show s.2.2.2.2 = 0 by simpa using hc, okN_0]
                cases s.2.2.1 == 4 <;> rfl
        have hcs : s.2.2.1 = 1 ∨ s.2.2.1 = 2 ∨ s.2.2.1 = 3 ∨ s.2.2.1 = 4 := by omega
        rcases hcs with e | e | e | e
        · have := two z_lose (by decide) (sEq_f (by decide))
          rw [e] at this ⊢
          refine this.trans ?_
          rw [show ((1 : Int) == 4) = false from rfl, show ((1 : Int) == 1) = true from rfl]
          simp only [cond_false, cond_true]
          rw [sEq_f (show toBytes z_lose ≠ toBytes eS by decide)]
          simp
        · have := two z_twice (by decide) (sEq_f (by decide))
          rw [e] at this ⊢
          refine this.trans ?_
          rw [show ((2 : Int) == 4) = false from rfl, show ((2 : Int) == 1) = false from rfl, show ((2 : Int) == 2) = true from rfl]
          simp only [cond_false, cond_true]
          rw [sEq_f (show toBytes z_twice ≠ toBytes eS by decide)]
          simp
        · have := two z_late (by decide) (sEq_f (by decide))
          rw [e] at this ⊢
          refine this.trans ?_
          rw [show ((3 : Int) == 4) = false from rfl, show ((3 : Int) == 1) = false from rfl, show ((3 : Int) == 2) = false from rfl, show ((3 : Int) == 3) = true from rfl]
          simp only [cond_false, cond_true]
          rw [sEq_f (show toBytes z_late ≠ toBytes eS by decide)]
          simp
        · have := two z_cut (by decide) (sEq_f (by decide))
          rw [e] at this ⊢
          refine this.trans ?_
          rw [show ((4 : Int) == 4) = true from rfl, show ((4 : Int) == 1) = false from rfl, show ((4 : Int) == 2) = false from rfl, show ((4 : Int) == 3) = false from rfl]
          simp only [cond_false, cond_true]
          rw [sEq_f (show toBytes z_cut ≠ toBytes eS by decide)]
          simp
      · have e : (bif s.2.2.1 == 1 then (z_lose, [s.2.2.2.1]) else bif s.2.2.1 == 2 then (z_twice, [s.2.2.2.1]) else bif s.2.2.1 == 3 then (z_late, [s.2.2.2.1]) else bif s.2.2.1 == 4 then (z_cut, [s.2.2.2.1, s.2.2.2.2]) else ((eS, []) : ByteArray × List Int)) = (eS, []) := by
          rw [show (s.2.2.1 == 1) = false by simp; omega, show (s.2.2.1 == 2) = false by simp; omega, show (s.2.2.1 == 3) = false by simp; omega, show (s.2.2.1 == 4) = false by simp; omega]
          rfl
        rw [e]
        by_cases hA2 : s.2.2.1 < 1
        · rw [decide_eq_true hA2, cond_true]
          refine (non 0).trans ?_
          rw [sEq_self]; rfl
        · rw [decide_eq_false hA2, cond_false, decide_eq_true (show s.2.2.1 > 4 by omega), cond_true]
          refine (non 0).trans ?_
          rw [sEq_self]; rfl
    · rw [show (s.1 != 3) = true by simp [h3], show (s.1 == 3) = false by simp [h3]]
      simp only [cond_false, cond_true]
      refine (non 0).trans ?_
      rw [sEq_self]; rfl
theorem implWritten (s : SP) (k : ByteArray → Res) (Z : Res) : impl_written s (fun r => bif (s.2.2.1 != r.2.2.1) then k eS else bif (s.2.2.2.1 != r.2.2.2.1) then k eS else bif (s.2.2.2.2 != r.2.2.2.2) then k eS else Z) = bif rest0 s then Z else k eS := by
  unfold impl_written impl_written_p0 rest0
  dsimp only
  have hb : ∀ n : Int, (n != n) = false := fun n => by simp
  unfold bne
  cases s.1 == 2
  · cases s.1 == 4
    · cases s.1 == 3
      · simp only [cond_false]
        cases s.2.2.1 == 0
        · rfl
        · cases s.2.2.2.1 == 0
          · rfl
          · cases s.2.2.2.2 == 0 <;> rfl
      · simp only [cond_false, cond_true]
        cases s.2.2.1 == 4
        · simp only [cond_false, beq_self_eq_true, Bool.not_true]
          cases s.2.2.2.2 == 0 <;> rfl
        · simp only [cond_true, beq_self_eq_true, Bool.not_true, cond_false]
    · simp only [cond_false, cond_true, beq_self_eq_true, Bool.not_true]
      cases s.2.2.2.1 == 0
      · rfl
      · cases s.2.2.2.2 == 0 <;> rfl
  · simp only [cond_false, cond_true, beq_self_eq_true, Bool.not_true]
    cases s.2.2.2.1 == 0
    · rfl
    · cases s.2.2.2.2 == 0 <;> rfl
theorem implWord_N (s : SP) (K : ByteArray → List Int → Res) : impl_stepWord s K = K (stepN s).1 (stepN s).2 := by
  unfold impl_stepWord stepN
  simp only [both_self, within_eq]
  by_cases h2 : s.1 = 2
  · rw [h2]; rfl
  have g2 : (s.1 == 2) = false := by simp [h2]
  by_cases h3 : s.1 = 3
  · rw [h3]
    rw [show ((3 : Int) == 2) = false from rfl, show ((3 : Int) == 3) = true from rfl, show ((3 : Int) == 4) = false from rfl, show ((3 : Int) == 5) = false from rfl, show ((3 : Int) == 6) = false from rfl, show ((3 : Int) == 7) = false from rfl]
    simp only [cond_false, cond_true]
    by_cases hA : 1 ≤ s.2.2.1 ∧ s.2.2.1 ≤ 3
    · rw [decide_eq_true hA]
      have : s.2.2.1 = 1 ∨ s.2.2.1 = 2 ∨ s.2.2.1 = 3 := by omega
      rcases this with e | e | e <;> rw [e] <;> rfl
    · rw [decide_eq_false hA, cond_false, show (s.2.2.1 == 1) = false by simp; omega, show (s.2.2.1 == 2) = false by simp; omega, show (s.2.2.1 == 3) = false by simp; omega]
      simp only [cond_false]
      cases s.2.2.1 == 4 <;> rfl
  have g3 : (s.1 == 3) = false := by simp [h3]
  rw [g2, g3]
  simp only [cond_false]
  cases s.1 == 4
  · cases s.1 == 5
    · cases s.1 == 6
      · cases s.1 == 7 <;> rfl
      · rfl
    · rfl
  · rfl
def numF (w : ByteArray) (n : Int) : Except Unit ByteArray := bif okN n then .ok ((w ++ spB) ++ numT n) else .error ()
theorem go_nums : (l : List Int) → (w : ByteArray) → goL numF l w = if l.all okN = true then .ok (w ++ tlB (l.map numT)) else .error ()
  | [], w => by
    show Except.ok w = if true = true then Except.ok (w ++ eS) else Except.error ()
    rw [if_pos rfl, eS_app]
  | n :: l, w => by
    simp only [goL]
    cases h : okN n
    · have e : numF w n = .error () := by unfold numF; rw [h]; rfl
      rw [e, List.all_cons, h, Bool.false_and, if_neg (by simp)]
    · have e : numF w n = .ok ((w ++ spB) ++ numT n) := by unfold numF; rw [h]; rfl
      rw [e, List.all_cons, h, Bool.true_and]
      dsimp only
      rw [go_nums l]
      have e2 : w ++ tlB ((n :: l).map numT) = ((w ++ spB) ++ numT n) ++ tlB (l.map numT) := by
        show w ++ (spB ++ (numT n ++ tlB (l.map numT))) = _
        simp only [ByteArray.append_assoc]
      rw [e2]
theorem implNums (l : List Int) (w : ByteArray) (hl : l.length ≤ 2) (hw : w.size ≤ 100) (a : ByteArray → Res) (b : Unit → Res) : impl_StepText_l1 l (nI l.length) FUEL w 0 a b = bif l.all okN then a (w ++ tlB (l.map numT)) else b () := by
  unfold impl_StepText_l1
  have := go_loop l (fun i w => (w, i)) numF (fun i w => w.size ≤ 100 + 20 * i) (step := impl_StepText_l1_s l (nI l.length)) (a, b) a b (fun i w w' hi hp hf => by
    have hn := numT_size l[i]
    unfold numF at hf
    cases ho : okN l[i]
    · rw [ho] at hf; cases hf
    · rw [ho] at hf; cases hf
      simp only [ByteArray.size_append]
      have : spB.size = 1 := rfl
      omega) (fun i w rec hi hp => by
    show impl_StepText_l1_r _ _ _ _ _ _ _ = _
    unfold impl_StepText_l1_r
    dsimp only
    have hn := numT_size l[i]
    have s1 : (z___1).size = 1 := rfl
    have q1 : (z___1 : ByteArray) = spB := rfl
    rw [nI_lt hi, cond_true, inb_nat hi, cond_true, nth_nat _ _ _ hi, implNum_eq]
    have hne : sEq (numT l[i]) eS = !numB l[i] := by rw [← numT_e]; unfold sNe sEq; rw [Bool.not_not]
    rw [hne]
    unfold numF okN
    by_cases h0 : l[i] < 0
    · rw [decide_eq_true h0, cond_true, decide_eq_false (show ¬ l[i] ≥ 0 by omega)]; rfl
    · rw [decide_eq_false h0, cond_false, decide_eq_true (show l[i] ≥ 0 by omega), Bool.true_and]
      cases numB l[i]
      · rfl
      · rw [Bool.not_true, cond_false, lim_of (by unfold LIM; omega), cond_true, lim_of (by rw [ByteArray.size_append]; unfold LIM; omega), cond_true, wi64_in (by omega), q1]
        rfl) (fun w rec hp => by
    show impl_StepText_l1_r _ _ _ _ _ _ _ = _
    unfold impl_StepText_l1_r
    dsimp only
    rw [nI_ge, cond_false]) l.length 0 FUEL w (by omega) (FUEL_lt (by omega)) (by omega)
  refine Eq.trans this ?_
  rw [List.drop_zero, go_nums]
  cases l.all okN <;> rfl
theorem stepN_small (s : SP) : (stepN s).1.size ≤ 10 ∧ (stepN s).2.length ≤ 2 := by
  unfold stepN
  cases s.1 == 2
  · cases s.1 == 4
    · cases s.1 == 5
      · cases s.1 == 6
        · cases s.1 == 7
          · cases s.1 == 3
            · exact ⟨Nat.le_of_ble_eq_true rfl, Nat.le_of_ble_eq_true rfl⟩
            · cases s.2.2.1 == 1
              · cases s.2.2.1 == 2
                · cases s.2.2.1 == 3
                  · cases s.2.2.1 == 4
                    · exact ⟨Nat.le_of_ble_eq_true rfl, Nat.le_of_ble_eq_true rfl⟩
                    · exact ⟨Nat.le_of_ble_eq_true rfl, Nat.le_of_ble_eq_true rfl⟩
                  · exact ⟨Nat.le_of_ble_eq_true rfl, Nat.le_of_ble_eq_true rfl⟩
                · exact ⟨Nat.le_of_ble_eq_true rfl, Nat.le_of_ble_eq_true rfl⟩
              · exact ⟨Nat.le_of_ble_eq_true rfl, Nat.le_of_ble_eq_true rfl⟩
          · exact ⟨Nat.le_of_ble_eq_true rfl, Nat.le_of_ble_eq_true rfl⟩
        · exact ⟨Nat.le_of_ble_eq_true rfl, Nat.le_of_ble_eq_true rfl⟩
      · exact ⟨Nat.le_of_ble_eq_true rfl, Nat.le_of_ble_eq_true rfl⟩
    · exact ⟨Nat.le_of_ble_eq_true rfl, Nat.le_of_ble_eq_true rfl⟩
  · exact ⟨Nat.le_of_ble_eq_true rfl, Nat.le_of_ble_eq_true rfl⟩
theorem implStep_eq (s : SP) (hs : stSm s.2.1.2.2) (k : ByteArray → Res) : impl_StepText s k = k (stepT s) := by
  unfold impl_StepText
  rw [implWritten]
  by_cases h1 : s.1 = 1
  · rw [show (s.1 == 1) = true by simp [h1], cond_true, implRecT_eq _ hs]
    have hrs := recT_size hs
    have s1 : (z_src_).size = 4 := rfl
    have hr : rest0 s = ((s.2.2.1 == 0) && ((s.2.2.2.1 == 0) && (s.2.2.2.2 == 0))) := by unfold rest0; rw [h1]; rfl
    cases hb : recB s.2.1
    · rw [recT_off hb, sEq_self, cond_true, stepT_1f h1 (by rw [hb]; rfl)]
      cases rest0 s <;> rfl
    · cases hc : rest0 s
      · rw [hr] at hc
        rw [stepT_1f h1 (by rw [hb, hc]; rfl)]
        rfl
      · rw [hr] at hc
        rw [stepT_1 h1 (by rw [hb, hc]; rfl), cond_true]
        have e : sEq (recT s.2.1) eS = false := by rw [recT_on hb]; exact recJ_head hb
        rw [e, cond_false, lim_of (by unfold LIM; omega), cond_true]
  · rw [show (s.1 == 1) = false by simp [h1], cond_false, stepT_n h1, implWord_N]
    have hsm := stepN_small s
    have hp : ∀ (w : ByteArray) (K : Bool → Res), impl_StepText_p0 w s K = K (!((!sEq w eS) && noRC s.2.1)) := fun w K => by
      unfold impl_StepText_p0 noRC bne
      rw [implNoST_eq]
      cases sEq w eS
      · cases s.2.1.1 == 0
        · rfl
        · cases s.2.1.2.1 == 0 <;> rfl
      · rfl
    rw [hp, implNums _ _ hsm.2 (by omega)]
    cases rest0 s
    · rw [Bool.false_and, Bool.and_false, Bool.and_false]; rfl
    · rw [cond_true, Bool.true_and]
      cases sEq (stepN s).1 eS
      · cases noRC s.2.1
        · rfl
        · cases (stepN s).2.all okN <;> rfl
      · rfl
end Go.PI.G
namespace Go.PI.G
open Go Go.PI

abbrev yRC : Ty := .pair (.int .i64) (.pair (.int .i64) yST)
abbrev ySP : Ty := .pair (.int .i64) (.pair yRC (.pair (.int .i64) (.pair (.int .i64) (.int .i64))))
theorem msr_D {d : D} (h : msr yD d ≤ 1048576) : dSm d := by
  have e4 : msr yD d = 0 + (d.2.1.size + (msr (.slice yC) d.2.2.1 + (msr (.slice .str) d.2.2.2.1 + (d.2.2.2.2.1.size + d.2.2.2.2.2.size)))) := rfl
  have h2 : msr (.slice yC) d.2.2.1 ≤ 1048576 := by omega
  have h3 : msr (.slice .str) d.2.2.2.1 ≤ 1048576 := by omega
  refine ⟨by omega, msr_len h2, msr_len h3, fun c hc => ?_, fun x hx => msr_mem h3 hx, by omega, by omega⟩
  have := msr_mem h2 hc
  have h4 : msr yC c = c.1.size + msr (.pair (.int .i64) (.pair .bool (.pair .bool yV))) c.2 := rfl
  omega
theorem msr_ST {s : ST} (h : msr yST s ≤ 1048576) : stSm s := by
  have e3 : msr yST s = 0 + (s.2.1.size + (msr (.slice yV) s.2.2.1 + (msr (.slice yV) s.2.2.2.1 + msr yD s.2.2.2.2))) := rfl
  have h2 : msr (.slice yV) s.2.2.1 ≤ 1048576 := by omega
  have h3 : msr (.slice yV) s.2.2.2.1 ≤ 1048576 := by omega
  exact ⟨by omega, msr_len h2, msr_len h3, msr_D (by omega)⟩
theorem msr_SP {s : Int × (Int × Int × ST) × Int × Int × Int} (h : msr ySP s ≤ 1048576) : stSm s.2.1.2.2 := by
  have e1 : msr ySP s = 0 + (msr yRC s.2.1 + (0 + (0 + 0))) := rfl
  have e2 : msr yRC s.2.1 = 0 + (0 + msr yST s.2.1.2.2) := rfl
  exact msr_ST (by omega)
end Go.PI.G
set_option maxRecDepth 10000
namespace Go.PI.G
open Go Go.PI Go.Proofs

theorem toVal_eq (a : Int × Int × ByteArray) (h : msr y1 a ≤ 1048576) (k : qV → Res) : laws_toVal a k = k a := by
  unfold laws_toVal
  rfl

theorem szVal_eq (a : Int × Int × ByteArray) (left : Int) (h0 : 0 ≤ left) (h1 : left ≤ 1048576) (hw : Wf y1 a) (k : Int → Res) : laws_szVal a left k = k (szR left (msr y1 a)) := by
  have hm : msr y1 a = ByteArray.size a.2.2 + 0 := by simp only [msr]; omega
  rw [hm]
  unfold laws_szVal
  have hx0 : ByteArray.size a.2.2 ≤ maxLen := hw.2.2
  unfold maxLen at hx0
  rw [wi64_in (by unfold nI; omega)]
  by_cases hb0 : ((ByteArray.size a.2.2 : Nat) : Int) ≤ left
  rotate_left
  · rw [szR_stop hb0, dec_lt_t (by unfold nI; omega), cond_true]
  rw [dec_lt_f (by unfold nI; omega), cond_false, szR_step hb0, show left - nI (ByteArray.size a.2.2) = left - ((ByteArray.size a.2.2 : Nat) : Int) from rfl]
  exact sz_end (by omega)

theorem eqVal_eq (a : Int × Int × ByteArray) (h : msr y1 a ≤ 1048576) (k : Bool → Res) : laws_eqVal a a k = k true := by
  unfold laws_eqVal
  simp only [bne_f, sNe_self, beq_self_eq_true, cond_false, Bool.not_true]
end Go.PI.G
namespace Go.PI.G
open Go Go.PI Go.Proofs

theorem toCol_eq (a : ByteArray × Int × Bool × Bool × Int × Int × ByteArray) (h : msr y6 a ≤ 1048576) (k : qC → Res) : laws_toCol a k = k a := by
  have h4 : msr y1 a.2.2.2.2 ≤ 1048576 := (Nat.le_trans (@msr_snd .bool y1 a.2.2.2) (Nat.le_trans (@msr_snd .bool y3 a.2.2) (Nat.le_trans (@msr_snd (.int .i64) y4 a.2) (Nat.le_trans (@msr_snd .str y5 a) h))))
  unfold laws_toCol
  simp only [toVal_eq _ h4]

theorem szCol_eq (a : ByteArray × Int × Bool × Bool × Int × Int × ByteArray) (left : Int) (h0 : 0 ≤ left) (h1 : left ≤ 1048576) (hw : Wf y6 a) (k : Int → Res) : laws_szCol a left k = k (szR left (msr y6 a)) := by
  have hm : msr y6 a = ByteArray.size a.1 + (msr y1 a.2.2.2.2 + 0) := by simp only [msr]; omega
  rw [hm]
  unfold laws_szCol
  have hx0 : ByteArray.size a.1 ≤ maxLen := hw.1
  unfold maxLen at hx0
  rw [wi64_in (by unfold nI; omega)]
  by_cases hb0 : ((ByteArray.size a.1 : Nat) : Int) ≤ left
  rotate_left
  · rw [szR_stop hb0, dec_lt_t (by unfold nI; omega), cond_true]
  rw [dec_lt_f (by unfold nI; omega), cond_false, szR_step hb0, show left - nI (ByteArray.size a.1) = left - ((ByteArray.size a.1 : Nat) : Int) from rfl]
  rw [szVal_eq _ _ (by omega) (by omega) hw.2.2.2.2]
  by_cases hb1 : ((msr y1 a.2.2.2.2 : Nat) : Int) ≤ left - (ByteArray.size a.1 : Nat)
  rotate_left
  · rw [szR_neg hb1, szR_stop hb1, dec_lt_t (by omega), cond_true]
  rw [szR_pos hb1, szR_step hb1, dec_lt_f (by omega), cond_false]
  exact sz_end (by omega)

theorem eqCol_eq (a : ByteArray × Int × Bool × Bool × Int × Int × ByteArray) (h : msr y6 a ≤ 1048576) (k : Bool → Res) : laws_eqCol a a k = k true := by
  have h4 : msr y1 a.2.2.2.2 ≤ 1048576 := (Nat.le_trans (@msr_snd .bool y1 a.2.2.2) (Nat.le_trans (@msr_snd .bool y3 a.2.2) (Nat.le_trans (@msr_snd (.int .i64) y4 a.2) (Nat.le_trans (@msr_snd .str y5 a) h))))
  unfold laws_eqCol
  simp only [bne_f, sNe_self, beq_self_eq_true, cond_false, Bool.not_true, eqVal_eq _ h4]
end Go.PI.G
namespace Go.PI.G
open Go Go.PI Go.Proofs

theorem toColS_eq (a : qE) (h : msr y7 a ≤ 1048576) (k : qE → Res) : laws_toColS a k = k a := by
  have hl : a.length ≤ 1048576 := msr_len h
  unfold laws_toColS
  rw [mkOk_of (by unfold LIM; omega), cond_true]
  have := to_loop ((eS, 0, false, false, 0, 0, eS)) a id (step := laws_toColS_l0_s a) (fun out => k out) (by unfold LIM; omega) (fun out i rec hi hlo => by
    show laws_toColS_l0_r a _ _ _ _ = _
    unfold laws_toColS_l0_r
    dsimp only
    simp only [nI_lt hi, cond_true, inb_nat hi, inb_nat (show i < out.length by omega), nth_nat _ _ _ hi, upd_nat, wi64_in (n := (i : Int) + 1) (by omega), toCol_eq _ (msr_mem h (List.getElem_mem hi))]
    rfl) (fun out rec => by
    show laws_toColS_l0_r a _ _ _ _ = _
    unfold laws_toColS_l0_r
    dsimp only
    rw [nI_ge, cond_false])
  rw [List.map_id] at this
  exact this

theorem szColS_eq (a : qE) (left : Int) (h0 : 0 ≤ left) (h1 : left ≤ 1048576) (hw : Wf y7 a) (k : Int → Res) : laws_szColS a left k = k (szR left (msr y7 a)) := by
  have hl : a.length ≤ maxLen := hw.1
  have hm : msr y7 a = a.length + (a.map (msr y6)).sum := rfl
  rw [hm]
  unfold laws_szColS
  refine sz_str (F := fun q => laws_szColS_l0 a FUEL q 0 (fun left1 => k left1) (fun _ => k (-1))) (k := k) h0 h1 hl fun hb => ?_
  unfold laws_szColS_l0
  rw [sz_loop (msr y6) a _ (by omega) (fun left i rec hi h0 h1 => ?_) (fun left rec => ?_) _ (by omega) (by omega)]
  · by_cases hb : (((a.map (msr y6)).sum : Nat) : Int) ≤ left - a.length
    · rw [if_pos hb, szR_pos hb]
    · rw [if_neg hb, szR_neg hb]
  · show laws_szColS_l0_r a _ _ _ _ _ = _
    have hx := hw.2 _ (List.getElem_mem hi)
    unfold laws_szColS_l0_r
    rw [nI_lt hi, cond_true, inb_nat hi, cond_true, nth_nat _ _ _ hi, szCol_eq _ _ h0 h1 hx]
    have hi9 : (i : Int) < 4611686018427387904 := by unfold maxLen at hl; omega
    rw [wi64_in (n := (i : Int) + 1) (by omega)]
    by_cases hb : ((msr y6 a[i] : Nat) : Int) ≤ left
    · rw [if_pos hb, szR_pos hb, dec_lt_f (by omega), cond_false]
    · rw [if_neg hb, szR_neg hb, dec_lt_t (by omega), cond_true]
  · show laws_szColS_l0_r a _ _ _ _ _ = _
    unfold laws_szColS_l0_r
    rw [nI_ge, cond_false]

theorem eqColS_eq (a : qE) (h : msr y7 a ≤ 1048576) (k : Bool → Res) : laws_eqColS a a k = k true := by
  have hl : a.length ≤ 1048576 := msr_len h
  unfold laws_eqColS
  rw [bne_f, cond_false]
  unfold laws_eqColS_l0
  rw [eq_loop a _ (by unfold LIM; omega) (fun i rec hi => ?_) (fun rec => ?_)]
  · show laws_eqColS_l0_r a a _ _ _ _ = _
    unfold laws_eqColS_l0_r
    simp only [nI_lt hi, cond_true, inb_nat hi, nth_nat _ _ _ hi, wi64_in (n := (i : Int) + 1) (by omega), bne_f, sNe_self, cond_false, Bool.not_true, eqCol_eq _ (msr_mem h (List.getElem_mem hi))]
  · show laws_eqColS_l0_r a a _ _ _ _ = _
    unfold laws_eqColS_l0_r
    rw [nI_ge, cond_false]
end Go.PI.G
namespace Go.PI.G
open Go Go.PI Go.Proofs

theorem toStringS_eq (a : (List ByteArray)) (h : msr y8 a ≤ 1048576) (k : (List ByteArray) → Res) : laws_toStringS a k = k a := by
  have hl : a.length ≤ 1048576 := msr_len h
  unfold laws_toStringS
  rw [mkOk_of (by unfold LIM; omega), cond_true]
  have := to_loop (eS) a id (step := laws_toStringS_l0_s a) (fun out => k out) (by unfold LIM; omega) (fun out i rec hi hlo => by
    show laws_toStringS_l0_r a _ _ _ _ = _
    unfold laws_toStringS_l0_r
    dsimp only
    simp only [nI_lt hi, cond_true, inb_nat hi, inb_nat (show i < out.length by omega), nth_nat _ _ _ hi, upd_nat, wi64_in (n := (i : Int) + 1) (by omega)]
    rfl) (fun out rec => by
    show laws_toStringS_l0_r a _ _ _ _ = _
    unfold laws_toStringS_l0_r
    dsimp only
    rw [nI_ge, cond_false])
  rw [List.map_id] at this
  exact this

theorem szStringS_eq (a : (List ByteArray)) (left : Int) (h0 : 0 ≤ left) (h1 : left ≤ 1048576) (hw : Wf y8 a) (k : Int → Res) : laws_szStringS a left k = k (szR left (msr y8 a)) := by
  have hl : a.length ≤ maxLen := hw.1
  have hm : msr y8 a = a.length + (a.map (msr .str)).sum := rfl
  rw [hm]
  unfold laws_szStringS
  refine sz_str (F := fun q => laws_szStringS_l0 a FUEL q 0 (fun left1 => k left1) (fun _ => k (-1))) (k := k) h0 h1 hl fun hb => ?_
  unfold laws_szStringS_l0
  rw [sz_loop (msr .str) a _ (by omega) (fun left i rec hi h0 h1 => ?_) (fun left rec => ?_) _ (by omega) (by omega)]
  · by_cases hb : (((a.map (msr .str)).sum : Nat) : Int) ≤ left - a.length
    · rw [if_pos hb, szR_pos hb]
    · rw [if_neg hb, szR_neg hb]
  · show laws_szStringS_l0_r a _ _ _ _ _ = _
    have hx := hw.2 _ (List.getElem_mem hi)
    unfold laws_szStringS_l0_r
    have hx : a[i].size ≤ maxLen := hx
    unfold maxLen at hx hl
    rw [nI_lt hi, cond_true, inb_nat hi, cond_true, nth_nat _ _ _ hi, wi64_in (n := left - nI a[i].size) (by unfold nI; omega), wi64_in (n := (i : Int) + 1) (by omega)]
    unfold nI
    by_cases hb : ((msr .str a[i] : Nat) : Int) ≤ left
    · have hb' : (a[i].size : Int) ≤ left := hb
      rw [if_pos hb, dec_lt_f (by omega), cond_false]; rfl
    · have hb' : ¬ (a[i].size : Int) ≤ left := hb
      rw [if_neg hb, dec_lt_t (by omega), cond_true]
  · show laws_szStringS_l0_r a _ _ _ _ _ = _
    unfold laws_szStringS_l0_r
    rw [nI_ge, cond_false]

theorem eqStringS_eq (a : (List ByteArray)) (h : msr y8 a ≤ 1048576) (k : Bool → Res) : laws_eqStringS a a k = k true := by
  have hl : a.length ≤ 1048576 := msr_len h
  unfold laws_eqStringS
  rw [bne_f, cond_false]
  unfold laws_eqStringS_l0
  rw [eq_loop a _ (by unfold LIM; omega) (fun i rec hi => ?_) (fun rec => ?_)]
  · show laws_eqStringS_l0_r a a _ _ _ _ = _
    unfold laws_eqStringS_l0_r
    simp only [nI_lt hi, cond_true, inb_nat hi, nth_nat _ _ _ hi, wi64_in (n := (i : Int) + 1) (by omega), bne_f, sNe_self, cond_false, Bool.not_true]
  · show laws_eqStringS_l0_r a a _ _ _ _ = _
    unfold laws_eqStringS_l0_r
    rw [nI_ge, cond_false]
end Go.PI.G
namespace Go.PI.G
open Go Go.PI Go.Proofs

theorem toDdl_eq (a : Int × ByteArray × qE × List ByteArray × ByteArray × ByteArray) (h : msr y13 a ≤ 1048576) (k : (Int × ByteArray × qE × List ByteArray × ByteArray × ByteArray) → Res) : laws_toDdl a k = k a := by
  have h2 : msr y7 a.2.2.1 ≤ 1048576 := (Nat.le_trans (@msr_fst y7 y10 a.2.2) (Nat.le_trans (@msr_snd .str y11 a.2) (Nat.le_trans (@msr_snd (.int .i64) y12 a) h)))
  have h3 : msr y8 a.2.2.2.1 ≤ 1048576 := (Nat.le_trans (@msr_fst y8 y9 a.2.2.2) (Nat.le_trans (@msr_snd y7 y10 a.2.2) (Nat.le_trans (@msr_snd .str y11 a.2) (Nat.le_trans (@msr_snd (.int .i64) y12 a) h))))
  unfold laws_toDdl
  simp only [toColS_eq _ h2, toStringS_eq _ h3]

theorem szDdl_eq (a : Int × ByteArray × qE × List ByteArray × ByteArray × ByteArray) (left : Int) (h0 : 0 ≤ left) (h1 : left ≤ 1048576) (hw : Wf y13 a) (k : Int → Res) : laws_szDdl a left k = k (szR left (msr y13 a)) := by
  have hm : msr y13 a = ByteArray.size a.2.1 + (msr y7 a.2.2.1 + (msr y8 a.2.2.2.1 + (ByteArray.size a.2.2.2.2.1 + (ByteArray.size a.2.2.2.2.2 + 0)))) := by simp only [msr]; omega
  rw [hm]
  unfold laws_szDdl
  have hx0 : ByteArray.size a.2.1 ≤ maxLen := hw.2.1
  unfold maxLen at hx0
  rw [wi64_in (by unfold nI; omega)]
  by_cases hb0 : ((ByteArray.size a.2.1 : Nat) : Int) ≤ left
  rotate_left
  · rw [szR_stop hb0, dec_lt_t (by unfold nI; omega), cond_true]
  rw [dec_lt_f (by unfold nI; omega), cond_false, szR_step hb0, show left - nI (ByteArray.size a.2.1) = left - ((ByteArray.size a.2.1 : Nat) : Int) from rfl]
  rw [szColS_eq _ _ (by omega) (by omega) hw.2.2.1]
  by_cases hb1 : ((msr y7 a.2.2.1 : Nat) : Int) ≤ left - (ByteArray.size a.2.1 : Nat)
  rotate_left
  · rw [szR_neg hb1, szR_stop hb1, dec_lt_t (by omega), cond_true]
  rw [szR_pos hb1, szR_step hb1, dec_lt_f (by omega), cond_false]
  rw [szStringS_eq _ _ (by omega) (by omega) hw.2.2.2.1]
  by_cases hb2 : ((msr y8 a.2.2.2.1 : Nat) : Int) ≤ left - (ByteArray.size a.2.1 : Nat) - (msr y7 a.2.2.1 : Nat)
  rotate_left
  · rw [szR_neg hb2, szR_stop hb2, dec_lt_t (by omega), cond_true]
  rw [szR_pos hb2, szR_step hb2, dec_lt_f (by omega), cond_false]
  have hx3 : ByteArray.size a.2.2.2.2.1 ≤ maxLen := hw.2.2.2.2.1
  unfold maxLen at hx3
  rw [wi64_in (by unfold nI; omega)]
  by_cases hb3 : ((ByteArray.size a.2.2.2.2.1 : Nat) : Int) ≤ left - (ByteArray.size a.2.1 : Nat) - (msr y7 a.2.2.1 : Nat) - (msr y8 a.2.2.2.1 : Nat)
  rotate_left
  · rw [szR_stop hb3, dec_lt_t (by unfold nI; omega), cond_true]
  rw [dec_lt_f (by unfold nI; omega), cond_false, szR_step hb3, show left - (ByteArray.size a.2.1 : Nat) - (msr y7 a.2.2.1 : Nat) - (msr y8 a.2.2.2.1 : Nat) - nI (ByteArray.size a.2.2.2.2.1) = left - (ByteArray.size a.2.1 : Nat) - (msr y7 a.2.2.1 : Nat) - (msr y8 a.2.2.2.1 : Nat) - ((ByteArray.size a.2.2.2.2.1 : Nat) : Int) from rfl]
  have hx4 : ByteArray.size a.2.2.2.2.2 ≤ maxLen := hw.2.2.2.2.2
  unfold maxLen at hx4
  rw [wi64_in (by unfold nI; omega)]
  by_cases hb4 : ((ByteArray.size a.2.2.2.2.2 : Nat) : Int) ≤ left - (ByteArray.size a.2.1 : Nat) - (msr y7 a.2.2.1 : Nat) - (msr y8 a.2.2.2.1 : Nat) - (ByteArray.size a.2.2.2.2.1 : Nat)
  rotate_left
  · rw [szR_stop hb4, dec_lt_t (by unfold nI; omega), cond_true]
  rw [dec_lt_f (by unfold nI; omega), cond_false, szR_step hb4, show left - (ByteArray.size a.2.1 : Nat) - (msr y7 a.2.2.1 : Nat) - (msr y8 a.2.2.2.1 : Nat) - (ByteArray.size a.2.2.2.2.1 : Nat) - nI (ByteArray.size a.2.2.2.2.2) = left - (ByteArray.size a.2.1 : Nat) - (msr y7 a.2.2.1 : Nat) - (msr y8 a.2.2.2.1 : Nat) - (ByteArray.size a.2.2.2.2.1 : Nat) - ((ByteArray.size a.2.2.2.2.2 : Nat) : Int) from rfl]
  exact sz_end (by omega)

theorem eqDdl_eq (a : Int × ByteArray × qE × List ByteArray × ByteArray × ByteArray) (h : msr y13 a ≤ 1048576) (k : Bool → Res) : laws_eqDdl a a k = k true := by
  have h2 : msr y7 a.2.2.1 ≤ 1048576 := (Nat.le_trans (@msr_fst y7 y10 a.2.2) (Nat.le_trans (@msr_snd .str y11 a.2) (Nat.le_trans (@msr_snd (.int .i64) y12 a) h)))
  have h3 : msr y8 a.2.2.2.1 ≤ 1048576 := (Nat.le_trans (@msr_fst y8 y9 a.2.2.2) (Nat.le_trans (@msr_snd y7 y10 a.2.2) (Nat.le_trans (@msr_snd .str y11 a.2) (Nat.le_trans (@msr_snd (.int .i64) y12 a) h))))
  unfold laws_eqDdl
  simp only [bne_f, sNe_self, beq_self_eq_true, cond_false, Bool.not_true, eqColS_eq _ h2, eqStringS_eq _ h3]
end Go.PI.G
namespace Go.PI.G
open Go Go.PI Go.Proofs

theorem toValS_eq (a : qW) (h : msr y2 a ≤ 1048576) (k : qW → Res) : laws_toValS a k = k a := by
  have hl : a.length ≤ 1048576 := msr_len h
  unfold laws_toValS
  rw [mkOk_of (by unfold LIM; omega), cond_true]
  have := to_loop ((0, 0, eS)) a id (step := laws_toValS_l0_s a) (fun out => k out) (by unfold LIM; omega) (fun out i rec hi hlo => by
    show laws_toValS_l0_r a _ _ _ _ = _
    unfold laws_toValS_l0_r
    dsimp only
    simp only [nI_lt hi, cond_true, inb_nat hi, inb_nat (show i < out.length by omega), nth_nat _ _ _ hi, upd_nat, wi64_in (n := (i : Int) + 1) (by omega), toVal_eq _ (msr_mem h (List.getElem_mem hi))]
    rfl) (fun out rec => by
    show laws_toValS_l0_r a _ _ _ _ = _
    unfold laws_toValS_l0_r
    dsimp only
    rw [nI_ge, cond_false])
  rw [List.map_id] at this
  exact this

theorem szValS_eq (a : qW) (left : Int) (h0 : 0 ≤ left) (h1 : left ≤ 1048576) (hw : Wf y2 a) (k : Int → Res) : laws_szValS a left k = k (szR left (msr y2 a)) := by
  have hl : a.length ≤ maxLen := hw.1
  have hm : msr y2 a = a.length + (a.map (msr y1)).sum := rfl
  rw [hm]
  unfold laws_szValS
  refine sz_str (F := fun q => laws_szValS_l0 a FUEL q 0 (fun left1 => k left1) (fun _ => k (-1))) (k := k) h0 h1 hl fun hb => ?_
  unfold laws_szValS_l0
  rw [sz_loop (msr y1) a _ (by omega) (fun left i rec hi h0 h1 => ?_) (fun left rec => ?_) _ (by omega) (by omega)]
  · by_cases hb : (((a.map (msr y1)).sum : Nat) : Int) ≤ left - a.length
    · rw [if_pos hb, szR_pos hb]
    · rw [if_neg hb, szR_neg hb]
  · show laws_szValS_l0_r a _ _ _ _ _ = _
    have hx := hw.2 _ (List.getElem_mem hi)
    unfold laws_szValS_l0_r
    rw [nI_lt hi, cond_true, inb_nat hi, cond_true, nth_nat _ _ _ hi, szVal_eq _ _ h0 h1 hx]
    have hi9 : (i : Int) < 4611686018427387904 := by unfold maxLen at hl; omega
    rw [wi64_in (n := (i : Int) + 1) (by omega)]
    by_cases hb : ((msr y1 a[i] : Nat) : Int) ≤ left
    · rw [if_pos hb, szR_pos hb, dec_lt_f (by omega), cond_false]
    · rw [if_neg hb, szR_neg hb, dec_lt_t (by omega), cond_true]
  · show laws_szValS_l0_r a _ _ _ _ _ = _
    unfold laws_szValS_l0_r
    rw [nI_ge, cond_false]

theorem eqValS_eq (a : qW) (h : msr y2 a ≤ 1048576) (k : Bool → Res) : laws_eqValS a a k = k true := by
  have hl : a.length ≤ 1048576 := msr_len h
  unfold laws_eqValS
  rw [bne_f, cond_false]
  unfold laws_eqValS_l0
  rw [eq_loop a _ (by unfold LIM; omega) (fun i rec hi => ?_) (fun rec => ?_)]
  · show laws_eqValS_l0_r a a _ _ _ _ = _
    unfold laws_eqValS_l0_r
    simp only [nI_lt hi, cond_true, inb_nat hi, nth_nat _ _ _ hi, wi64_in (n := (i : Int) + 1) (by omega), bne_f, sNe_self, cond_false, Bool.not_true, eqVal_eq _ (msr_mem h (List.getElem_mem hi))]
  · show laws_eqValS_l0_r a a _ _ _ _ = _
    unfold laws_eqValS_l0_r
    rw [nI_ge, cond_false]
end Go.PI.G
namespace Go.PI.G
open Go Go.PI Go.Proofs

theorem toRow_eq (a : List qV) (h : msr y2 a ≤ 1048576) (k : qW → Res) : laws_toRow a k = k a := by
  have h0 : msr y2 a ≤ 1048576 := h
  unfold laws_toRow
  simp only [toValS_eq _ h0]

theorem szRow_eq (a : List qV) (left : Int) (h0 : 0 ≤ left) (h1 : left ≤ 1048576) (hw : Wf y2 a) (k : Int → Res) : laws_szRow a left k = k (szR left (msr y2 a)) := by
  have hm : msr y2 a = msr y2 a + 0 := rfl
  rw [hm]
  unfold laws_szRow
  rw [szValS_eq _ _ (by omega) (by omega) hw]
  by_cases hb0 : ((msr y2 a : Nat) : Int) ≤ left
  rotate_left
  · rw [szR_neg hb0, szR_stop hb0, dec_lt_t (by omega), cond_true]
  rw [szR_pos hb0, szR_step hb0, dec_lt_f (by omega), cond_false]
  exact sz_end (by omega)

theorem eqRow_eq (a : List qV) (h : msr y2 a ≤ 1048576) (k : Bool → Res) : laws_eqRow a a k = k true := by
  have h0 : msr y2 a ≤ 1048576 := h
  unfold laws_eqRow
  simp only [bne_f, sNe_self, beq_self_eq_true, cond_false, Bool.not_true, eqValS_eq _ h0]
end Go.PI.G
namespace Go.PI.G
open Go Go.PI Go.Proofs

theorem toStmt_eq (a : Int × ByteArray × qW × qW × Int × ByteArray × qE × List ByteArray × ByteArray × ByteArray) (h : msr y17 a ≤ 1048576) (k : qS → Res) : laws_toStmt a k = k a := by
  have h2 : msr y2 a.2.2.1 ≤ 1048576 := (Nat.le_trans (@msr_fst y2 y14 a.2.2) (Nat.le_trans (@msr_snd .str y15 a.2) (Nat.le_trans (@msr_snd (.int .i64) y16 a) h)))
  have h3 : msr y2 a.2.2.2.1 ≤ 1048576 := (Nat.le_trans (@msr_fst y2 y13 a.2.2.2) (Nat.le_trans (@msr_snd y2 y14 a.2.2) (Nat.le_trans (@msr_snd .str y15 a.2) (Nat.le_trans (@msr_snd (.int .i64) y16 a) h))))
  have h4 : msr y13 a.2.2.2.2 ≤ 1048576 := (Nat.le_trans (@msr_snd y2 y13 a.2.2.2) (Nat.le_trans (@msr_snd y2 y14 a.2.2) (Nat.le_trans (@msr_snd .str y15 a.2) (Nat.le_trans (@msr_snd (.int .i64) y16 a) h))))
  unfold laws_toStmt
  simp only [toValS_eq _ h2, toRow_eq _ h3, toDdl_eq _ h4]

theorem szStmt_eq (a : Int × ByteArray × qW × qW × Int × ByteArray × qE × List ByteArray × ByteArray × ByteArray) (left : Int) (h0 : 0 ≤ left) (h1 : left ≤ 1048576) (hw : Wf y17 a) (k : Int → Res) : laws_szStmt a left k = k (szR left (msr y17 a)) := by
  have hm : msr y17 a = ByteArray.size a.2.1 + (msr y2 a.2.2.1 + (msr y2 a.2.2.2.1 + (msr y13 a.2.2.2.2 + 0))) := by simp only [msr]; omega
  rw [hm]
  unfold laws_szStmt
  have hx0 : ByteArray.size a.2.1 ≤ maxLen := hw.2.1
  unfold maxLen at hx0
  rw [wi64_in (by unfold nI; omega)]
  by_cases hb0 : ((ByteArray.size a.2.1 : Nat) : Int) ≤ left
  rotate_left
  · rw [szR_stop hb0, dec_lt_t (by unfold nI; omega), cond_true]
  rw [dec_lt_f (by unfold nI; omega), cond_false, szR_step hb0, show left - nI (ByteArray.size a.2.1) = left - ((ByteArray.size a.2.1 : Nat) : Int) from rfl]
  rw [szValS_eq _ _ (by omega) (by omega) hw.2.2.1]
  by_cases hb1 : ((msr y2 a.2.2.1 : Nat) : Int) ≤ left - (ByteArray.size a.2.1 : Nat)
  rotate_left
  · rw [szR_neg hb1, szR_stop hb1, dec_lt_t (by omega), cond_true]
  rw [szR_pos hb1, szR_step hb1, dec_lt_f (by omega), cond_false]
  rw [szRow_eq _ _ (by omega) (by omega) hw.2.2.2.1]
  by_cases hb2 : ((msr y2 a.2.2.2.1 : Nat) : Int) ≤ left - (ByteArray.size a.2.1 : Nat) - (msr y2 a.2.2.1 : Nat)
  rotate_left
  · rw [szR_neg hb2, szR_stop hb2, dec_lt_t (by omega), cond_true]
  rw [szR_pos hb2, szR_step hb2, dec_lt_f (by omega), cond_false]
  rw [szDdl_eq _ _ (by omega) (by omega) hw.2.2.2.2]
  by_cases hb3 : ((msr y13 a.2.2.2.2 : Nat) : Int) ≤ left - (ByteArray.size a.2.1 : Nat) - (msr y2 a.2.2.1 : Nat) - (msr y2 a.2.2.2.1 : Nat)
  rotate_left
  · rw [szR_neg hb3, szR_stop hb3, dec_lt_t (by omega), cond_true]
  rw [szR_pos hb3, szR_step hb3, dec_lt_f (by omega), cond_false]
  exact sz_end (by omega)

theorem eqStmt_eq (a : Int × ByteArray × qW × qW × Int × ByteArray × qE × List ByteArray × ByteArray × ByteArray) (h : msr y17 a ≤ 1048576) (k : Bool → Res) : laws_eqStmt a a k = k true := by
  have h2 : msr y2 a.2.2.1 ≤ 1048576 := (Nat.le_trans (@msr_fst y2 y14 a.2.2) (Nat.le_trans (@msr_snd .str y15 a.2) (Nat.le_trans (@msr_snd (.int .i64) y16 a) h)))
  have h3 : msr y2 a.2.2.2.1 ≤ 1048576 := (Nat.le_trans (@msr_fst y2 y13 a.2.2.2) (Nat.le_trans (@msr_snd y2 y14 a.2.2) (Nat.le_trans (@msr_snd .str y15 a.2) (Nat.le_trans (@msr_snd (.int .i64) y16 a) h))))
  have h4 : msr y13 a.2.2.2.2 ≤ 1048576 := (Nat.le_trans (@msr_snd y2 y13 a.2.2.2) (Nat.le_trans (@msr_snd y2 y14 a.2.2) (Nat.le_trans (@msr_snd .str y15 a.2) (Nat.le_trans (@msr_snd (.int .i64) y16 a) h))))
  unfold laws_eqStmt
  simp only [bne_f, sNe_self, beq_self_eq_true, cond_false, Bool.not_true, eqValS_eq _ h2, eqRow_eq _ h3, eqDdl_eq _ h4]
end Go.PI.G
namespace Go.PI.G
open Go Go.PI Go.Proofs

theorem toRec_eq (a : Int × Int × Int × ByteArray × qW × qW × Int × ByteArray × qE × List ByteArray × ByteArray × ByteArray) (h : msr y19 a ≤ 1048576) (k : (Int × Int × Int × ByteArray × qW × qW × Int × ByteArray × qE × List ByteArray × ByteArray × ByteArray) → Res) : laws_toRec a k = k a := by
  have h2 : msr y17 a.2.2 ≤ 1048576 := (Nat.le_trans (@msr_snd (.int .i64) y17 a.2) (Nat.le_trans (@msr_snd (.int .i64) y18 a) h))
  unfold laws_toRec
  simp only [toStmt_eq _ h2]

theorem szRec_eq (a : Int × Int × Int × ByteArray × qW × qW × Int × ByteArray × qE × List ByteArray × ByteArray × ByteArray) (left : Int) (h0 : 0 ≤ left) (h1 : left ≤ 1048576) (hw : Wf y19 a) (k : Int → Res) : laws_szRec a left k = k (szR left (msr y19 a)) := by
  have hm : msr y19 a = msr y17 a.2.2 + 0 := by simp only [msr]; omega
  rw [hm]
  unfold laws_szRec
  rw [szStmt_eq _ _ (by omega) (by omega) hw.2.2]
  by_cases hb0 : ((msr y17 a.2.2 : Nat) : Int) ≤ left
  rotate_left
  · rw [szR_neg hb0, szR_stop hb0, dec_lt_t (by omega), cond_true]
  rw [szR_pos hb0, szR_step hb0, dec_lt_f (by omega), cond_false]
  exact sz_end (by omega)

theorem eqRec_eq (a : Int × Int × Int × ByteArray × qW × qW × Int × ByteArray × qE × List ByteArray × ByteArray × ByteArray) (h : msr y19 a ≤ 1048576) (k : Bool → Res) : laws_eqRec a a k = k true := by
  have h2 : msr y17 a.2.2 ≤ 1048576 := (Nat.le_trans (@msr_snd (.int .i64) y17 a.2) (Nat.le_trans (@msr_snd (.int .i64) y18 a) h))
  unfold laws_eqRec
  simp only [bne_f, sNe_self, beq_self_eq_true, cond_false, Bool.not_true, eqStmt_eq _ h2]
end Go.PI.G
namespace Go.PI.G
open Go Go.PI Go.Proofs

theorem toStep_eq (a : Int × (Int × Int × Int × ByteArray × qW × qW × Int × ByteArray × qE × List ByteArray × ByteArray × ByteArray) × Int × Int × Int) (h : msr y23 a ≤ 1048576) (k : (Int × (Int × Int × Int × ByteArray × qW × qW × Int × ByteArray × qE × List ByteArray × ByteArray × ByteArray) × Int × Int × Int) → Res) : laws_toStep a k = k a := by
  have h1 : msr y19 a.2.1 ≤ 1048576 := (Nat.le_trans (@msr_fst y19 y21 a.2) (Nat.le_trans (@msr_snd (.int .i64) y22 a) h))
  unfold laws_toStep
  simp only [toRec_eq _ h1]

theorem szStep_eq (a : Int × (Int × Int × Int × ByteArray × qW × qW × Int × ByteArray × qE × List ByteArray × ByteArray × ByteArray) × Int × Int × Int) (left : Int) (h0 : 0 ≤ left) (h1 : left ≤ 1048576) (hw : Wf y23 a) (k : Int → Res) : laws_szStep a left k = k (szR left (msr y23 a)) := by
  have hm : msr y23 a = msr y19 a.2.1 + 0 := by simp only [msr]; omega
  rw [hm]
  unfold laws_szStep
  rw [szRec_eq _ _ (by omega) (by omega) hw.2.1]
  by_cases hb0 : ((msr y19 a.2.1 : Nat) : Int) ≤ left
  rotate_left
  · rw [szR_neg hb0, szR_stop hb0, dec_lt_t (by omega), cond_true]
  rw [szR_pos hb0, szR_step hb0, dec_lt_f (by omega), cond_false]
  exact sz_end (by omega)

theorem eqStep_eq (a : Int × (Int × Int × Int × ByteArray × qW × qW × Int × ByteArray × qE × List ByteArray × ByteArray × ByteArray) × Int × Int × Int) (h : msr y23 a ≤ 1048576) (k : Bool → Res) : laws_eqStep a a k = k true := by
  have h1 : msr y19 a.2.1 ≤ 1048576 := (Nat.le_trans (@msr_fst y19 y21 a.2) (Nat.le_trans (@msr_snd (.int .i64) y22 a) h))
  unfold laws_eqStep
  simp only [bne_f, sNe_self, beq_self_eq_true, cond_false, Bool.not_true, eqRec_eq _ h1]
end Go.PI.G
namespace Go.PI.G
open Go Go.PI Go.Proofs

theorem row_FnExactStepText (x0 : SP) (w0 : Wf ySP x0) (k : Bool → Res) : laws_FnExactStepText x0 k = k true := by
  unfold laws_FnExactStepText
  rw [szStep_eq x0 1048576 (by omega) (by omega) w0]
  by_cases hm : ((msr ySP x0 : Nat) : Int) ≤ 1048576
  rotate_left
  · rw [szR_neg hm]; rfl
  have hm' : msr ySP x0 ≤ 1048576 := by omega
  have hs := msr_SP hm'
  rw [szR_pos hm, decide_eq_false (by omega), cond_false, toStep_eq x0 hm', specStep_eq x0 hs, toStep_eq x0 hm', implStep_eq x0 hs, sNe_self, cond_false, toStep_eq x0 hm', eqStep_eq x0 hm', Bool.not_true, cond_false]
end Go.PI.G
