/-
  Net: the plain laws, on. No conditions.
-/
import Derived.Test.YtnijpcgdbjmokaaNA
set_option linter.unusedVariables false
namespace Go.PI.LA
open Go Go.PI Go.Proofs

theorem bLen {a : List (List Int)} {n : Nat} (h : bPackS a ≤ n) : a.length ≤ n ∧ ∀ x ∈ a, x.length ≤ n := by
  unfold bPackS at h
  exact ⟨by omega, fun x hx => by have := le_sum List.length a x hx; omega⟩

theorem l15Pack_eq (p : List Int) (h : p.length ≤ LIM) (k : List Int → Res) : spec_l15Pack p k = k p := by
  unfold spec_l15Pack; rw [lim_of (by omega), cond_true]
theorem copyPack_eq (p : List Int) (h : p.length ≤ LIM) (k : List Int → Res) : impl_copyPack p k = k p := by
  unfold impl_copyPack; rw [lim_of (by omega), cond_true]

def butG (i : Int) (j : Int) (x : List Int) : List (List Int) := bif j != i then [x] else []
def butF (n : List (List Int)) (i : Int) : List (List Int) := apps (butG i) 0 n
theorem butG_len (i j : Int) (x : List Int) : (butG i j x).length ≤ 1 := by unfold butG; cases j != i <;> simp
theorem butF_b (n : List (List Int)) (i : Int) : bPackS (butF n i) ≤ bPackS n := by
  have h1 := apps_len (butG i) (butG_len i) 0 n
  have h2 := apps_sum (butG i) List.length List.length (fun j x => by unfold butG; cases j != i <;> simp) 0 n
  unfold bPackS butF
  omega
theorem butF_len (n : List (List Int)) (i : Int) : (butF n i).length ≤ n.length := apps_len (butG i) (butG_len i) 0 n
theorem apps_all (i : Int) (hi : i < 0) : (n : List (List Int)) → (j : Nat) → apps (butG i) j n = n
  | [], _ => rfl
  | x :: n, j => by
    have : ((j : Int) != i) = true := by simp; omega
    simp only [apps, butG, this, cond_true, apps_all i hi n (j + 1)]
    rfl
theorem butF_all (n : List (List Int)) : butF n (-1) = n := apps_all (-1) (by omega) n 0

theorem l15But_eq (n : List (List Int)) (i : Int) (h : bPackS n ≤ LIM) (k : List (List Int) → Res) : spec_l15But n i k = k (butF n i) := by
  unfold spec_l15But spec_l15But_l0
  obtain ⟨hl, hl2⟩ := bLen h
  exact app_loop n (butG i) (fun j out => (j, out)) (step := spec_l15But_l0_s i (nI (List.length n)) n) (fun out => k out) k hl (butG_len i) (fun out j rec hj ho => by
    show spec_l15But_l0_r _ _ _ _ _ _ _ = _
    dsimp only
    unfold spec_l15But_l0_r
    have hL := hl; unfold LIM at hL
    rw [nI_lt hj, cond_true, inb_of (by omega) (by omega), cond_true, nth_nat _ _ _ hj, l15Pack_eq _ (hl2 _ (List.getElem_mem _)), lim_of (by omega), cond_true, wi64_of (by omega) (by omega)]
    unfold butG
    cases (j : Int) != i
    · rw [cond_false, cond_false, List.append_nil]
    · rw [cond_true, cond_true]) (fun out rec => by
    show spec_l15But_l0_r _ _ _ _ _ _ _ = _
    dsimp only
    unfold spec_l15But_l0_r
    rw [nI_ge, cond_false])
theorem without_eq (n : List (List Int)) (i : Int) (h : bPackS n ≤ LIM) (k : List (List Int) → Res) : impl_Net_without n i k = k (butF n i) := l15But_eq n i h k

theorem copyNet_eq (n : List (List Int)) (h : bPackS n ≤ LIM) (k : List (List Int) → Res) : impl_copyNet n k = k n := by
  unfold impl_copyNet impl_copyNet_l0
  obtain ⟨hl, hl2⟩ := bLen h
  have := app_loop n (butG (-1)) (fun j out => (j, out)) (step := impl_copyNet_l0_s (nI (List.length n)) n) (fun out => k out) k hl (butG_len _) (fun out j rec hj ho => by
    show impl_copyNet_l0_r _ _ _ _ _ _ = _
    dsimp only
    unfold impl_copyNet_l0_r
    have hL := hl; unfold LIM at hL
    rw [nI_lt hj, cond_true, inb_of (by omega) (by omega), cond_true, nth_nat _ _ _ hj, copyPack_eq _ (hl2 _ (List.getElem_mem _)), lim_of (by omega), cond_true, wi64_of (by omega) (by omega)]
    unfold butG
    have : ((j : Int) != -1) = true := by simp
    rw [this, cond_true]) (fun out rec => by
    show impl_copyNet_l0_r _ _ _ _ _ _ = _
    dsimp only
    unfold impl_copyNet_l0_r
    rw [nI_ge, cond_false])
  rw [apps_all (-1) (by omega)] at this
  exact this

/-! ### the laws of one net -/
def Fn (f : List (List Int) → (List (List Int) → Res) → Res) (a v : List (List Int)) : Prop := ∀ k, f a k = k v

noncomputable def shapeP (I : List (List Int) → (List (List Int) → Res) → Res) (aN w0 g0 : List (List Int)) (k0 : Bool → Res) : Res :=
  laws_markNet g0 1 fun (r : Int) (a3 : List (List Int)) =>
    laws_heldNet a3 1 fun (r1 : Int) =>
      bif decide (r1 < 0) then
        k0 false
      else
        bif (r1 != r) then
          k0 false
        else
          laws_toNet aN fun (r2 : List (List Int)) =>
            I r2 fun (r3 : List (List Int)) =>
              laws_eqNet r3 w0 fun (r4 : Bool) =>
                bif !r4 then
                  k0 false
                else
                  laws_heldNet a3 1 fun (r5 : Int) =>
                    bif decide (r5 < 0) then
                      k0 false
                    else
                      bif (r5 != r) then
                        k0 false
                      else
                        k0 true
noncomputable def shape (S I : List (List Int) → (List (List Int) → Res) → Res) (aN : List (List Int)) (k0 : Bool → Res) : Res :=
  laws_szNet aN 1048576 fun (r : Int) =>
    bif decide (r < 0) then
      k0 true
    else
      laws_toNet aN fun (r1 : List (List Int)) =>
        S r1 fun (r2 : List (List Int)) =>
          laws_toNet aN fun (r3 : List (List Int)) =>
            I r3 fun (r4 : List (List Int)) =>
              laws_eqNet r4 r2 fun (r5 : Bool) =>
                bif !r5 then
                  k0 false
                else
                  laws_toNet aN fun (r6 : List (List Int)) =>
                    laws_eqNet r3 r6 fun (r7 : Bool) =>
                      bif !r7 then
                        k0 false
                      else
                        laws_markNet r3 1 fun (r8 : Int) (a : List (List Int)) =>
                          bif decide (r8 < 0) then
                            k0 false
                          else
                            laws_eqNet r4 r2 fun (r9 : Bool) =>
                              bif !r9 then
                                k0 false
                              else
                                shapeP I aN r2 r4 fun (t : Bool) =>
                                  k0 t

theorem shape_true {S I : List (List Int) → (List (List Int) → Res) → Res} (a : List (List Int)) (ha : a.length ≤ maxLen) (h2 : ∀ x ∈ a, x.length ≤ maxLen)
    (hv : bPackS a ≤ 1048576 → ∃ v, bPackS v ≤ 4194304 ∧ (∀ k, S a k = k v) ∧ ∀ k, I a k = k v) (k : Bool → Res) : shape S I a k = k true := by
  unfold shape
  rw [szNet_eq a 1048576 (by omega) (by omega) ha h2]
  by_cases h : (bPackS a : Int) ≤ 1048576
  · rw [szR_pos h, dec_lt_f (by omega), cond_false]
    have hb : bPackS a ≤ 1048576 := by omega
    obtain ⟨v, hvb, hS, hI⟩ := hv hb
    have hbl : bPackS a ≤ LIM := by unfold LIM; omega
    have hvl : bPackS v ≤ LIM := by unfold LIM; omega
    obtain ⟨hl, hl2⟩ := bLen hbl
    obtain ⟨vl, vl2⟩ := bLen hvl
    rw [toNet_eq a hl hl2, hS, toNet_eq a hl hl2, hI, eqNet_eq v vl vl2, Bool.not_true, cond_false, toNet_eq a hl hl2, eqNet_eq a hl hl2, Bool.not_true, cond_false, markNet_eq a 1 hbl (by omega) (by omega),
      dec_lt_f (by omega), cond_false, eqNet_eq v vl vl2, Bool.not_true, cond_false]
    unfold shapeP
    rw [markNet_eq v 1 hvl (by omega) (by omega), heldNet_eq v 1 hvl (by omega) (by omega), dec_lt_f (by omega), cond_false, bne_f, cond_false, toNet_eq a hl hl2, hI, eqNet_eq v vl vl2, Bool.not_true, cond_false,
      heldNet_eq v 1 hvl (by omega) (by omega), dec_lt_f (by omega), cond_false, bne_f, cond_false]
  · rw [szR_neg h, dec_lt_t (by omega), cond_true]

theorem lose_shape (a : List (List Int)) (i : Int) (k : Bool → Res) : laws_FnExactNetLose a i k = shape (fun n => spec_NetLose n i) (fun n => impl_NetLose n i) a k := rfl
theorem late_shape (a : List (List Int)) (i : Int) (k : Bool → Res) : laws_FnExactNetLate a i k = shape (fun n => spec_NetLate n i) (fun n => impl_NetLate n i) a k := rfl
theorem twice_shape (a : List (List Int)) (i : Int) (k : Bool → Res) : laws_FnExactNetTwice a i k = shape (fun n => spec_NetTwice n i) (fun n => impl_NetTwice n i) a k := rfl
theorem cut_shape (a : List (List Int)) (i j : Int) (k : Bool → Res) : laws_FnExactNetCut a i j k = shape (fun n => spec_NetCut n i j) (fun n => impl_NetCut n i j) a k := rfl

def loseF (n : List (List Int)) (i : Int) : List (List Int) := bif decide (nI n.length ≤ 30) then butF n i else []
theorem loseF_b (n : List (List Int)) (i : Int) : bPackS (loseF n i) ≤ bPackS n := by
  unfold loseF
  cases decide (nI n.length ≤ 30)
  · simp [bPackS]
  · exact butF_b n i
theorem specLose_eq (n : List (List Int)) (i : Int) (h : bPackS n ≤ LIM) (k : List (List Int) → Res) : spec_NetLose n i k = k (loseF n i) := by
  unfold spec_NetLose spec_NetOk loseF
  cases decide (nI n.length ≤ 30)
  · rfl
  · dsimp only
    rw [Bool.not_true, cond_false, l15But_eq n i h, cond_true]
theorem implLose_eq (n : List (List Int)) (i : Int) (h : bPackS n ≤ LIM) (k : List (List Int) → Res) : impl_NetLose n i k = k (loseF n i) := specLose_eq n i h k

def sendF (n : List (List Int)) (p : List Int) : List (List Int) := bif decide (nI n.length ≤ 30) then (bif decide (nI n.length < 30) then n ++ [p] else n) else []
theorem sendF_b (n : List (List Int)) (p : List Int) : bPackS (sendF n p) ≤ bPackS n + p.length + 1 := by
  unfold sendF
  cases decide (nI n.length ≤ 30)
  · simp [bPackS]
  · cases decide (nI n.length < 30)
    · rw [cond_true, cond_false]; omega
    · simp [bPackS]; omega
theorem specSend_eq (n : List (List Int)) (p : List Int) (h : bPackS n + p.length < LIM) (k : List (List Int) → Res) : spec_NetSend n p k = k (sendF n p) := by
  unfold spec_NetSend spec_NetOk sendF
  have := (bLen (Nat.le_refl (bPackS n))).1
  cases decide (nI n.length ≤ 30)
  · rfl
  · dsimp only
    rw [Bool.not_true, cond_false, l15But_eq n _ (by omega), butF_all, cond_true]
    cases decide (nI n.length < 30)
    · rfl
    · rw [cond_true, l15Pack_eq _ (by omega), lim_of (by omega), cond_true, cond_true]
theorem implSend_eq (n : List (List Int)) (p : List Int) (h : bPackS n + p.length < LIM) (k : List (List Int) → Res) : impl_NetSend n p k = k (sendF n p) := by
  unfold impl_NetSend impl_NetOk sendF
  have := (bLen (Nat.le_refl (bPackS n))).1
  cases decide (nI n.length ≤ 30)
  · rfl
  · dsimp only
    rw [Bool.not_true, cond_false, copyNet_eq n (by omega), cond_true]
    cases decide (nI n.length < 30)
    · rfl
    · rw [cond_true, copyPack_eq _ (by omega), lim_of (by omega), cond_true, cond_true]

theorem netLose (a : List (List Int)) (i : Int) (ha : a.length ≤ maxLen) (h2 : ∀ x ∈ a, x.length ≤ maxLen) (k : Bool → Res) : laws_FnExactNetLose a i k = k true := by
  rw [lose_shape]
  refine shape_true a ha h2 (fun h => ⟨loseF a i, ?_, ?_, ?_⟩) k
  · have := loseF_b a i; omega
  · intro k; exact specLose_eq a i (by unfold LIM; omega) k
  · intro k; exact implLose_eq a i (by unfold LIM; omega) k

theorem place_iff {n : List (List Int)} {i : Int} : (spec_l15Place n i = fun k => k (decide (0 ≤ i ∧ i < nI n.length))) := by
  funext k
  unfold spec_l15Place
  by_cases h : 0 ≤ i
  · have h1 : decide (i ≥ 0) = true := decide_eq_true h
    rw [h1, cond_true]
    congr 1
    simp [h]
  · have h1 : decide (i ≥ 0) = false := decide_eq_false h
    rw [h1, cond_false]
    congr 1
    simp [h]
theorem has_iff {n : List (List Int)} {i : Int} : (impl_Net_has n i = fun k => k (decide (0 ≤ i ∧ i < nI n.length))) := place_iff

theorem nth_len (n : List (List Int)) (i : Int) (h : 0 ≤ i ∧ i < nI n.length) : (nth [] n i).length ≤ bPackS n := by
  obtain ⟨j, rfl⟩ := Int.eq_ofNat_of_zero_le h.1
  have hj : j < n.length := by unfold nI at h; omega
  show (nth [] n (j : Int)).length ≤ _
  rw [nth_nat _ _ _ hj]
  exact (bLen (Nat.le_refl _)).2 _ (List.getElem_mem _)

def lateF (n : List (List Int)) (i : Int) : List (List Int) := bif decide (nI n.length ≤ 30) then (bif decide (0 ≤ i ∧ i < nI n.length) then sendF (butF n i) (nth [] n i) else loseF n (-1)) else loseF n (-1)
theorem netLate (a : List (List Int)) (i : Int) (ha : a.length ≤ maxLen) (h2 : ∀ x ∈ a, x.length ≤ maxLen) (k : Bool → Res) : laws_FnExactNetLate a i k = k true := by
  rw [late_shape]
  refine shape_true a ha h2 (fun h => ⟨lateF a i, ?_, ?_, ?_⟩) k
  · have h1 := loseF_b a (-1)
    unfold lateF
    cases decide (nI a.length ≤ 30)
    · rw [cond_false]; omega
    · rw [cond_true]
      by_cases hp : 0 ≤ i ∧ i < nI a.length
      · rw [decide_eq_true hp, cond_true]
        have := sendF_b (butF a i) (nth [] a i)
        have := butF_b a i
        have := nth_len a i hp
        omega
      · rw [decide_eq_false hp, cond_false]; omega
  · intro k
    show spec_NetLate a i k = _
    unfold spec_NetLate spec_NetOk lateF
    rw [place_iff]
    dsimp only
    cases decide (nI a.length ≤ 30)
    · rw [cond_false, specLose_eq a _ (by unfold LIM; omega), cond_false]
    · rw [cond_true]
      by_cases hp : 0 ≤ i ∧ i < nI a.length
      · rw [decide_eq_true hp, cond_true, inb_of hp.1 hp.2, cond_true, l15But_eq a i (by unfold LIM; omega)]
        have := butF_b a i
        have := nth_len a i hp
        rw [specSend_eq _ _ (by unfold LIM; omega)]
        rfl
      · rw [decide_eq_false hp, cond_false, specLose_eq a _ (by unfold LIM; omega)]; rfl
  · intro k
    show impl_NetLate a i k = _
    unfold impl_NetLate impl_NetOk lateF
    rw [has_iff]
    dsimp only
    cases decide (nI a.length ≤ 30)
    · rw [Bool.not_false, cond_true, implLose_eq a _ (by unfold LIM; omega), cond_false]
    · rw [Bool.not_true, cond_false]
      by_cases hp : 0 ≤ i ∧ i < nI a.length
      · rw [decide_eq_true hp, Bool.not_true, cond_false, inb_of hp.1 hp.2, cond_true, without_eq a i (by unfold LIM; omega)]
        have := butF_b a i
        have := nth_len a i hp
        rw [implSend_eq _ _ (by unfold LIM; omega)]
        rfl
      · rw [decide_eq_false hp, Bool.not_false, cond_true, implLose_eq a _ (by unfold LIM; omega)]; rfl

def twiceF (n : List (List Int)) (i : Int) : List (List Int) := bif decide (nI n.length ≤ 30) then (bif decide (0 ≤ i ∧ i < nI n.length) then sendF n (nth [] n i) else loseF n (-1)) else loseF n (-1)
theorem netTwice (a : List (List Int)) (i : Int) (ha : a.length ≤ maxLen) (h2 : ∀ x ∈ a, x.length ≤ maxLen) (k : Bool → Res) : laws_FnExactNetTwice a i k = k true := by
  rw [twice_shape]
  refine shape_true a ha h2 (fun h => ⟨twiceF a i, ?_, ?_, ?_⟩) k
  · have h1 := loseF_b a (-1)
    unfold twiceF
    cases decide (nI a.length ≤ 30)
    · rw [cond_false]; omega
    · rw [cond_true]
      by_cases hp : 0 ≤ i ∧ i < nI a.length
      · rw [decide_eq_true hp, cond_true]
        have := sendF_b a (nth [] a i)
        have := nth_len a i hp
        omega
      · rw [decide_eq_false hp, cond_false]; omega
  · intro k
    show spec_NetTwice a i k = _
    unfold spec_NetTwice spec_NetOk twiceF
    rw [place_iff]
    dsimp only
    cases decide (nI a.length ≤ 30)
    · rw [cond_false, specLose_eq a _ (by unfold LIM; omega), cond_false]
    · rw [cond_true]
      by_cases hp : 0 ≤ i ∧ i < nI a.length
      · have := nth_len a i hp
        rw [decide_eq_true hp, cond_true, inb_of hp.1 hp.2, cond_true, specSend_eq _ _ (by unfold LIM; omega)]
        rfl
      · rw [decide_eq_false hp, cond_false, specLose_eq a _ (by unfold LIM; omega)]; rfl
  · intro k
    show impl_NetTwice a i k = _
    unfold impl_NetTwice impl_NetOk twiceF
    rw [has_iff]
    dsimp only
    cases decide (nI a.length ≤ 30)
    · rw [Bool.not_false, cond_true, implLose_eq a _ (by unfold LIM; omega), cond_false]
    · rw [Bool.not_true, cond_false]
      by_cases hp : 0 ≤ i ∧ i < nI a.length
      · have := nth_len a i hp
        rw [decide_eq_true hp, Bool.not_true, cond_false, inb_of hp.1 hp.2, cond_true, implSend_eq _ _ (by unfold LIM; omega)]
        rfl
      · rw [decide_eq_false hp, Bool.not_false, cond_true, implLose_eq a _ (by unfold LIM; omega)]; rfl

theorem wfN {x : List (List Int)} (w : Wf y1 x) : x.length ≤ maxLen ∧ ∀ y ∈ x, y.length ≤ maxLen := ⟨w.1, fun y hy => (w.2 y hy).1⟩
theorem row_FnExactNetLose (x0 : List (List Int)) (w0 : Wf y1 x0) (x1 : Int) (w1 : Wf (.int .i64) x1) (k : Bool → Res) : laws_FnExactNetLose x0 x1 k = k true := netLose x0 x1 (wfN w0).1 (wfN w0).2 k
theorem row_FnExactNetLate (x0 : List (List Int)) (w0 : Wf y1 x0) (x1 : Int) (w1 : Wf (.int .i64) x1) (k : Bool → Res) : laws_FnExactNetLate x0 x1 k = k true := netLate x0 x1 (wfN w0).1 (wfN w0).2 k
theorem row_FnExactNetTwice (x0 : List (List Int)) (w0 : Wf y1 x0) (x1 : Int) (w1 : Wf (.int .i64) x1) (k : Bool → Res) : laws_FnExactNetTwice x0 x1 k = k true := netTwice x0 x1 (wfN w0).1 (wfN w0).2 k
end Go.PI.LA
