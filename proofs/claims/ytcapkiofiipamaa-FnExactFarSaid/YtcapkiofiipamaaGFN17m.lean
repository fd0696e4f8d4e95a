/-
  From one store to another: what the program and the reference say. Lemmas; no conditions.
-/
import Derived.Test.YtcapkiofiipamaaGFL02
import Derived.Test.YtcapkiofiipamaaGFN04
import Derived.Test.YtcapkiofiipamaaGFN17
set_option linter.unusedVariables false
set_option linter.unusedSimpArgs false
namespace Go.PI.G
open Go Go.PI Go.Proofs

def sameT (a b : T) : Bool := sEq a.1 b.1 && (alike zC ceq a.2.1 b.2.1 && alike eS sEq a.2.2 b.2.2)
theorem alike_iff {α : Type} {z : α} {f : α → α → Bool} (hf : ∀ x y, f x y = true → x = y) {a b : List α} (h : alike z f a b = true) : a = b := by
  unfold alike at h
  simp only [Bool.and_eq_true, decide_eq_true_eq, Bool.not_eq_true'] at h
  refine List.ext_getElem h.1 fun i h1 h2 => ?_
  have := anyI_false a 0 h.2 i h1
  rw [Bool.not_eq_false', show 0 + i = i by omega, nth_nat _ _ _ h2] at this
  exact hf _ _ this
theorem ceq_iff (a b : C) (h : ceq a b = true) : a = b := by
  obtain ⟨a1, a2, a3, a4, a5, a6, a7⟩ := a
  obtain ⟨b1, b2, b3, b4, b5, b6, b7⟩ := b
  unfold ceq at h
  simp only [Bool.and_eq_true, beq_iff_eq, sEq_iff] at h
  obtain ⟨rfl, rfl, rfl, rfl, rfl, rfl, rfl⟩ := h
  rfl
theorem sameT_iff {a b : T} (h : sameT a b = true) : a = b := by
  obtain ⟨a1, a2, a3⟩ := a
  obtain ⟨b1, b2, b3⟩ := b
  unfold sameT at h
  simp only [Bool.and_eq_true, sEq_iff] at h
  obtain ⟨rfl, h2, h3⟩ := h
  have := alike_iff ceq_iff h2
  have := alike_iff (fun x y hxy => (sEq_iff x y).1 hxy) h3
  simp_all
theorem specSame_eq (a b : T) (ha : msr yT a ≤ 1048576) (hb : msr yT b ≤ 1048576) (ta : tabB a = true) (tb : tabB b = true) (k : Bool → Res) : spec_SameTable a b k = k (sameT a b) := by
  obtain ⟨m1, m2, m3, m4, m5⟩ := msr_T ha
  unfold spec_SameTable spec_SameTable_p0 sameT
  rw [specTab_eq a ha, specTab_eq b hb, ta, tb, Bool.not_true, cond_false, cond_false]
  show (bif !sEq a.1 b.1 then _ else _) = _
  cases sEq a.1 b.1
  · rfl
  · rw [Bool.not_true, cond_false, Bool.true_and]
    by_cases h1 : a.2.1.length = b.2.1.length
    · rw [len_eq h1, cond_false]
      by_cases h2 : a.2.2.length = b.2.2.length
      · rw [len_eq h2]
        dsimp only
        rw [cond_false]
        unfold spec_SameTable_l2
        have e1 := alike_loop zC ceq a.2.1 b.2.1 (step := spec_SameTable_l2_s (nI a.2.1.length) a b) ((fun (_ : Unit) => spec_SameTable_l3 (nI a.2.2.length) a b FUEL 0 (fun (_ : Unit) => k true) (fun (_ : Unit) => k false)), (fun (_ : Unit) => k false)) (spec_SameTable_l3 (nI a.2.2.length) a b FUEL 0 (fun (_ : Unit) => k true) (fun (_ : Unit) => k false)) (k false) (by unfold LIM; omega) h1 (fun i rec hi hj => by
          show spec_SameTable_l2_r _ a b _ _ _ _ = _
          unfold spec_SameTable_l2_r spec_SameTable_p1
          rw [nI_lt hi, cond_true, inb_nat hi, cond_true, inb_nat hj, cond_true, nth_nat _ _ _ hi, nth_nat _ _ _ hj, wi64_in (n := (i : Int) + 1) (by omega)]
          show (bif !ceq a.2.1[i] b.2.1[i] then _ else _) = _
          cases ceq a.2.1[i] b.2.1[i] <;> rfl) (fun rec => by
          show spec_SameTable_l2_r _ a b _ _ _ _ = _
          unfold spec_SameTable_l2_r
          rw [nI_ge, cond_false])
        refine e1.trans ?_
        cases alike zC ceq a.2.1 b.2.1
        · rfl
        · rw [cond_true, Bool.true_and]
          unfold spec_SameTable_l3
          have e2 := alike_loop eS sEq a.2.2 b.2.2 (step := spec_SameTable_l3_s (nI a.2.2.length) a b) ((fun (_ : Unit) => k true), (fun (_ : Unit) => k false)) (k true) (k false) (by unfold LIM; omega) h2 (fun i rec hi hj => by
            show spec_SameTable_l3_r _ a b _ _ _ _ = _
            unfold spec_SameTable_l3_r
            rw [nI_lt hi, cond_true, inb_nat hi, cond_true, inb_nat hj, cond_true, nth_nat _ _ _ hi, nth_nat _ _ _ hj, wi64_in (n := (i : Int) + 1) (by omega)]
            show (bif !sEq a.2.2[i] b.2.2[i] then _ else _) = _
            cases sEq a.2.2[i] b.2.2[i] <;> rfl) (fun rec => by
            show spec_SameTable_l3_r _ a b _ _ _ _ = _
            unfold spec_SameTable_l3_r
            rw [nI_ge, cond_false])
          refine e2.trans ?_
          cases alike eS sEq a.2.2 b.2.2 <;> rfl
      · rw [len_ne h2]
        dsimp only
        rw [cond_true, alike_ne h2, Bool.and_false]
    · rw [len_ne h1, cond_true]
      dsimp only
      rw [cond_true, alike_ne h1, Bool.false_and]
theorem implSame_eq (a b : T) (ha : msr yT a ≤ 1048576) (k : Bool → Res) : impl_equalTables a b k = k (sameT a b) := by
  obtain ⟨m1, m2, m3, m4, m5⟩ := msr_T ha
  unfold impl_equalTables sameT
  rw [implSameCols_eq _ _ (by unfold LIM; omega), implSameStr_eq _ _ (by unfold LIM; omega)]
  cases sEq a.1 b.1
  · rfl
  · cases alike zC ceq a.2.1 b.2.1 <;> rfl
theorem implAll_eq (a b : List T) (ha : msr (.slice yT) a ≤ 1048576) (k : Bool → Res) : slices_EqualFunc_Table a b () k = k (alike zT sameT a b) := by
  obtain ⟨m1, m2⟩ := msr_cat ha
  unfold slices_EqualFunc_Table
  by_cases hl : a.length = b.length
  · rw [len_eq hl, cond_false]
    unfold slices_EqualFunc_Table_l0
    have := alike_loop zT sameT a b (step := slices_EqualFunc_Table_l0_s b a (nI a.length)) ((fun (_ : Unit) => k true), (fun (_ : Unit) => k false)) (k true) (k false) (by unfold LIM; omega) hl (fun i rec hi hj => by
      show slices_EqualFunc_Table_l0_r _ _ _ _ _ _ _ = _
      unfold slices_EqualFunc_Table_l0_r
      rw [nI_lt hi, cond_true, inb_nat hi, cond_true, inb_nat hj, cond_true, nth_nat _ _ _ hi, nth_nat _ _ _ hj, implSame_eq _ _ (m2 _ (List.getElem_mem hi)), wi64_in (n := (i : Int) + 1) (by omega)]
      cases sameT a[i] b[i] <;> rfl) (fun rec => by
      show slices_EqualFunc_Table_l0_r _ _ _ _ _ _ _ = _
      unfold slices_EqualFunc_Table_l0_r
      rw [nI_ge, cond_false])
    refine this.trans ?_
    cases alike zT sameT a b <;> rfl
  · rw [len_ne hl, cond_true, alike_ne hl]

/-! ### all tables -/
def mendAt (a b : DB) (i : Nat) (t : T) : List ST := mendS t (nth [] a.2 (i : Int)) (nth [] b.2 (i : Int))
def mendW (a b : DB) : Except Unit (List ST) := walkL (fun i out t => .ok (out ++ mendAt a b i t)) 0 a.1 []
def mendV (a b : DB) : List ST := match mendW a b with | .ok l => l | .error _ => []
theorem walk_same {α β : Type} (f : Nat → α → Bool) (g : Nat → α → List β) : (l : List α) → (i : Nat) → (out : List β) → walkL (fun i out t => bif f i t then (.ok (out ++ g i t) : Except Unit (List β)) else .error ()) i l out = bif anyI (fun i t => !f i t) i l then .error () else walkL (fun i out t => (.ok (out ++ g i t) : Except Unit (List β))) i l out
  | [], _, _ => rfl
  | x :: l, i, out => by
    simp only [walkL, anyI]
    cases f i x
    · rfl
    · exact walk_same f g l (i + 1) _
theorem walk_ok {α β : Type} (g : Nat → α → List β) : (l : List α) → (i : Nat) → (out : List β) → ∃ r, walkL (fun i out t => (.ok (out ++ g i t) : Except Unit (List β))) i l out = .ok r
  | [], _, out => ⟨out, rfl⟩
  | x :: l, i, out => walk_ok g l (i + 1) _
theorem mendW_ok (a b : DB) : mendW a b = .ok (mendV a b) := by
  obtain ⟨r, hr⟩ := walk_ok (mendAt a b) a.1 0 []
  have : mendW a b = .ok r := hr
  unfold mendV
  rw [this]
theorem catB_len {c : List T} (h : catB c = true) : c.length ≤ 6 := by
  unfold catB at h
  rw [Bool.and_eq_true, decide_eq_true_eq] at h
  exact h.1
theorem specMend_eq (a b : DB) (ha : msr yDB a ≤ 1048576) (hb : msr yDB b ≤ 1048576) (k : List ST → Bool → Res) : spec_Mend a b k = bif dbB a && (dbB b && alike zT sameT a.1 b.1) then k (mendV a b) true else k [] false := by
  obtain ⟨m1, m2, m3, m4, m5⟩ := msr_DB ha
  obtain ⟨n1, n2, n3, n4, n5⟩ := msr_DB hb
  unfold spec_Mend
  rw [specDb_eq a ha, specDb_eq b hb]
  cases da : dbB a
  · rfl
  · cases db : dbB b
    · rfl
    · rw [Bool.not_true, cond_false, cond_false, Bool.true_and, Bool.true_and]
      obtain ⟨p1, p2, p3⟩ := dbB_parts da
      obtain ⟨q1, q2, q3⟩ := dbB_parts db
      have hc := catB_len p1
      by_cases hl : a.2.length = b.2.length
      · have hl' : a.1.length = b.1.length := by omega
        rw [len_eq hl, cond_false]
        unfold spec_Mend_l0
        have := walk_loop a.1 (fun i out => (out, i)) (fun i out t => bif sameT t (nth zT b.1 (i : Int)) then (.ok (out ++ mendAt a b i t) : Except Unit (List ST)) else .error ()) (fun i out => out.length ≤ 180 * i) (step := spec_Mend_l0_s a.1 (nI a.1.length) a b) ((fun (out : List ST) => k out true), (fun (_ : Unit) => k [] false)) (fun out => k out true) (fun _ => k [] false) [] (by unfold LIM; omega) (by simp) (fun i out out' hi ho hf => by
          have h1 : i < b.1.length := by omega
          have h2 : i < a.2.length := by omega
          have h3 : i < b.2.length := by omega
          cases hs : sameT a.1[i] (nth zT b.1 (i : Int))
          · rw [hs] at hf; cases hf
          · rw [hs, cond_true] at hf
            cases hf
            have := mendS_le a.1[i] a.2[i] b.2[i] (rowsB_parts (p3 i hi h2)).2.1 (rowsB_parts (q3 i h1 h3)).2.1
            unfold mendAt
            rw [nth_nat _ _ _ h2, nth_nat _ _ _ h3, List.length_append]
            omega) (fun i out rec hi ho => by
          have h1 : i < b.1.length := by omega
          have h2 : i < a.2.length := by omega
          have h3 : i < b.2.length := by omega
          show spec_Mend_l0_r _ _ a b _ _ _ _ _ = _
          unfold spec_Mend_l0_r
          dsimp only
          rw [nI_lt hi, cond_true, inb_nat hi, cond_true, inb_nat h1, cond_true, nth_nat _ _ _ hi, nth_nat _ _ _ h1, specSame_eq _ _ (m4 _ (List.getElem_mem hi)) (n4 _ (List.getElem_mem h1)) (rowsB_parts (p3 i hi h2)).1 (rowsB_parts (q3 i h1 h3)).1, wi64_in (n := (i : Int) + 1) (by omega)]
          cases hs : sameT a.1[i] b.1[i]
          · rfl
          · have hte := sameT_iff hs
            have hrb := q3 i h1 h3
            rw [← hte] at hrb
            have := mendS_le a.1[i] a.2[i] b.2[i] (rowsB_parts (p3 i hi h2)).2.1 (rowsB_parts hrb).2.1
            unfold mendAt
            rw [Bool.not_true, cond_false, inb_nat h2, cond_true, inb_nat h3, cond_true, nth_nat _ _ _ h2, nth_nat _ _ _ h3, specRowsMend_eq _ (m4 _ (List.getElem_mem hi)), p3 i hi h2, hrb, Bool.and_true, cond_true, lim_of (by unfold LIM; omega), cond_true, cond_true]) (fun out rec ho => by
          show spec_Mend_l0_r _ _ a b _ _ _ _ _ = _
          unfold spec_Mend_l0_r
          dsimp only
          rw [nI_ge, cond_false])
        refine this.trans ?_
        rw [walk_same (fun i t => sameT t (nth zT b.1 (i : Int))) (mendAt a b)]
        unfold alike
        rw [decide_eq_true hl', Bool.true_and]
        cases anyI (fun i t => !sameT t (nth zT b.1 (i : Int))) 0 a.1
        · have hw : walkL (fun i out t => (.ok (out ++ mendAt a b i t) : Except Unit (List ST))) 0 a.1 [] = .ok (mendV a b) := mendW_ok a b
          rw [cond_false, hw]
          rfl
        · rfl
      · rw [len_ne hl, cond_true, alike_ne (by omega), cond_false]
theorem implMend_eq (a b : DB) (ha : msr yDB a ≤ 1048576) (hb : msr yDB b ≤ 1048576) (k : List ST → Bool → Res) : impl_Mend a b k = bif dbB a && (dbB b && alike zT sameT a.1 b.1) then k (mendV a b) true else k [] false := by
  obtain ⟨m1, m2, m3, m4, m5⟩ := msr_DB ha
  unfold impl_Mend
  rw [implDb_eq a ha, implDb_eq b hb]
  cases da : dbB a
  · rfl
  · cases db : dbB b
    · rfl
    · rw [Bool.not_true, cond_false, cond_false, Bool.true_and, Bool.true_and, implAll_eq _ _ m1]
      obtain ⟨p1, p2, p3⟩ := dbB_parts da
      obtain ⟨q1, q2, q3⟩ := dbB_parts db
      have hc := catB_len p1
      cases hal : alike zT sameT a.1 b.1
      · rfl
      · have hte := alike_iff (fun x y h => sameT_iff h) hal
        have hl' : a.1.length = b.1.length := by rw [hte]
        rw [Bool.not_true, cond_false, cond_true]
        unfold impl_Mend_l0
        have := walk_loop a.1 (fun i out => (out, i)) (fun i out t => (.ok (out ++ mendAt a b i t) : Except Unit (List ST))) (fun i out => out.length ≤ 180 * i) (step := impl_Mend_l0_s a.1 (nI a.1.length) a b) (fun (out : List ST) => k out true) (fun out => k out true) (fun _ => k [] false) [] (by unfold LIM; omega) (by simp) (fun i out out' hi ho hf => by
          have h1 : i < b.1.length := by omega
          have h2 : i < a.2.length := by omega
          have h3 : i < b.2.length := by omega
          cases hf
          have := mendS_le a.1[i] a.2[i] b.2[i] (rowsB_parts (p3 i hi h2)).2.1 (rowsB_parts (q3 i h1 h3)).2.1
          unfold mendAt
          rw [nth_nat _ _ _ h2, nth_nat _ _ _ h3, List.length_append]
          omega) (fun i out rec hi ho => by
          have h1 : i < b.1.length := by omega
          have h2 : i < a.2.length := by omega
          have h3 : i < b.2.length := by omega
          show impl_Mend_l0_r _ _ a b _ _ _ _ = _
          unfold impl_Mend_l0_r
          dsimp only
          have hrb : rowsB a.1[i] b.2[i] = true := by
            have := q3 i h1 h3
            simp only [← hte] at this
            exact this
          have := mendS_le a.1[i] a.2[i] b.2[i] (rowsB_parts (p3 i hi h2)).2.1 (rowsB_parts hrb).2.1
          unfold mendAt
          rw [nI_lt hi, cond_true, inb_nat hi, cond_true, inb_nat h2, cond_true, inb_nat h3, cond_true, nth_nat _ _ _ hi, nth_nat _ _ _ h2, nth_nat _ _ _ h3, implRowsMend_eq _ (m4 _ (List.getElem_mem hi)) _ _ (p3 i hi h2) hrb, lim_of (by unfold LIM; omega), cond_true, wi64_in (n := (i : Int) + 1) (by omega)]) (fun out rec ho => by
          show impl_Mend_l0_r _ _ a b _ _ _ _ = _
          unfold impl_Mend_l0_r
          dsimp only
          rw [nI_ge, cond_false])
        refine this.trans ?_
        have hw : walkL (fun i out t => (.ok (out ++ mendAt a b i t) : Except Unit (List ST))) 0 a.1 [] = .ok (mendV a b) := mendW_ok a b
        rw [hw]
end Go.PI.G
