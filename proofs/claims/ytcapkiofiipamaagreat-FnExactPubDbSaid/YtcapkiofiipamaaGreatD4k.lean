/-
  Printed texts and plain laws. No conditions.
-/
import Derived.Test.YtcapkiofiipamaaGreatD4d
import Derived.Test.YtcapkiofiipamaaGreatD4a
import Derived.Test.YtcapkiofiipamaaGreatD4j
import Derived.Test.YtcapkiofiipamaaGreatD4i
import Derived.Test.YtcapkiofiipamaaGreatD4e
import Derived.Test.YtcapkiofiipamaaGreatD4f
set_option linter.unusedVariables false
set_option linter.unusedSimpArgs false
namespace Go.PI.G
open Go Go.PI Go.Proofs

def hasB (p : List ByteArray) (s : ByteArray) : Bool := p.any fun x => sEq x s
def pubB (p : List ByteArray) : Bool := !anyI (fun i s => !wordB s || (decide (0 < i) && sGe (nth eS p ((i : Int) - 1)) s)) 0 p && decide (p.length ≤ 6)
theorem pub_step (c : List ByteArray) (i : Nat) (hi : i < c.length) (hl : c.length ≤ LIM) (x : Res) (y : Res) : (bif decide ((i : Int) > 0) then (bif inb (wi64 ((i : Int) - 1)) c.length then (bif sGe (nth eS c (wi64 ((i : Int) - 1))) c[i] then x else y) else none) else y) =
    bif (decide (0 < i) && sGe (nth eS c ((i : Int) - 1)) c[i]) then x else y := by
  by_cases h : 0 < i
  · unfold LIM at hl
    rw [decide_eq_true (show (i : Int) > 0 by omega), decide_eq_true h, cond_true, wi64_in (by omega), inb_of (by omega) (by omega), cond_true, Bool.true_and]
  · rw [decide_eq_false (show ¬ (i : Int) > 0 by omega), decide_eq_false h]; rfl
theorem msr_P {p : List ByteArray} (h : msr (.slice .str) p ≤ 1048576) : p.length ≤ 1048576 ∧ ∀ x ∈ p, x.size ≤ 1048576 := ⟨msr_len h, fun x hx => msr_mem h hx⟩
theorem specPub_eq (p : List ByteArray) (h : msr (.slice .str) p ≤ 1048576) (k : Bool → Res) : spec_PubOk p k = k (pubB p) := by
  obtain ⟨m1, m2⟩ := msr_P h
  unfold spec_PubOk spec_PubOk_l0 pubB
  have := anyI_loop p (fun i => i) (fun i s => !wordB s || (decide (0 < i) && sGe (nth eS p ((i : Int) - 1)) s)) (step := spec_PubOk_l0_s p (nI p.length) p) ((fun (_ : Unit) => k (decide (nI p.length ≤ 6))), (fun (_ : Unit) => k false)) (k (decide (nI p.length ≤ 6))) (k false) (by unfold LIM; omega) (fun i rec hi => by
    show spec_PubOk_l0_r _ _ p _ _ _ _ = _
    unfold spec_PubOk_l0_r
    rw [nI_lt hi, cond_true, inb_nat hi, cond_true, nth_nat _ _ _ hi, specWord_eq _ (by have := m2 _ (List.getElem_mem hi); unfold LIM; omega), wi64_in (n := (i : Int) + 1) (by omega), pub_step p i hi (by unfold LIM; omega)]
    cases wordB p[i]
    · rfl
    · cases (decide (0 < i) && sGe (nth eS p ((i : Int) - 1)) p[i]) <;> rfl) (fun rec => by
    show spec_PubOk_l0_r _ _ p _ _ _ _ = _
    unfold spec_PubOk_l0_r
    rw [nI_ge, cond_false])
  refine this.trans ?_
  have hd : decide (nI p.length ≤ 6) = decide (p.length ≤ 6) := decide_eq_decide.2 (by unfold nI; omega)
  rw [hd]
  cases anyI (fun i s => !wordB s || (decide (0 < i) && sGe (nth eS p ((i : Int) - 1)) s)) 0 p
  · rw [cond_false, Bool.not_false, Bool.true_and]
  · rfl
theorem implPub_eq (p : List ByteArray) (h : msr (.slice .str) p ≤ 1048576) (k : Bool → Res) : impl_PubOk p k = k (pubB p) := by
  obtain ⟨m1, m2⟩ := msr_P h
  unfold impl_PubOk impl_PubOk_l0 pubB
  have := anyI_loop p (fun i => i) (fun i s => !wordB s || (decide (0 < i) && sGe (nth eS p ((i : Int) - 1)) s)) (step := impl_PubOk_l0_s p (nI p.length) p) ((fun (_ : Unit) => k (decide (nI p.length ≤ 6))), (fun (_ : Unit) => k false)) (k (decide (nI p.length ≤ 6))) (k false) (by unfold LIM; omega) (fun i rec hi => by
    show impl_PubOk_l0_r _ _ p _ _ _ _ = _
    unfold impl_PubOk_l0_r
    rw [nI_lt hi, cond_true, inb_nat hi, cond_true, nth_nat _ _ _ hi, implWord_eq _ (by have := m2 _ (List.getElem_mem hi); unfold LIM; omega), wi64_in (n := (i : Int) + 1) (by omega), pub_step p i hi (by unfold LIM; omega)]
    cases wordB p[i]
    · rfl
    · cases (decide (0 < i) && sGe (nth eS p ((i : Int) - 1)) p[i]) <;> rfl) (fun rec => by
    show impl_PubOk_l0_r _ _ p _ _ _ _ = _
    unfold impl_PubOk_l0_r
    rw [nI_ge, cond_false])
  refine this.trans ?_
  have hd : decide (nI p.length ≤ 6) = decide (p.length ≤ 6) := decide_eq_decide.2 (by unfold nI; omega)
  rw [hd]
  cases anyI (fun i s => !wordB s || (decide (0 < i) && sGe (nth eS p ((i : Int) - 1)) s)) 0 p
  · rw [cond_false, Bool.not_false, Bool.true_and]
  · rfl
theorem specHas_eq (l : List ByteArray) (s : ByteArray) (h : l.length ≤ LIM) (k : Bool → Res) : spec_l02Has l s k = k (hasB l s) := by
  unfold spec_l02Has spec_l02Has_l0 hasB
  have := any_loop l (fun i => i) (fun x => sEq x s) (step := spec_l02Has_l0_s s l (nI l.length)) ((fun (_ : Unit) => k false), (fun (_ : Unit) => k true)) (k false) (k true) h (fun i rec hi => by
    show spec_l02Has_l0_r _ _ _ _ _ _ _ = _
    unfold spec_l02Has_l0_r
    unfold LIM at h
    rw [nI_lt hi, cond_true, inb_nat hi, cond_true, nth_nat _ _ _ hi, wi64_in (n := (i : Int) + 1) (by omega)]) (fun rec => by
    show spec_l02Has_l0_r _ _ _ _ _ _ _ = _
    unfold spec_l02Has_l0_r
    rw [nI_ge, cond_false])
  refine this.trans ?_
  cases l.any fun x => sEq x s <;> rfl
theorem idxI_any {α : Type} (q : α → Bool) (l : List α) : decide (idxI q l ≥ 0) = l.any q := by
  unfold idxI
  cases h : l.findIdx? q with
  | none =>
    have := List.findIdx?_eq_none_iff.1 h
    have ha : l.any q = false := by
      rw [List.any_eq_false]
      intro x hx
      rw [this x hx]; simp
    rw [ha]; rfl
  | some i =>
    have := List.findIdx?_eq_some_iff_getElem.1 h
    obtain ⟨hi, hq, _⟩ := this
    have ha : l.any q = true := List.any_eq_true.2 ⟨l[i], List.getElem_mem hi, hq⟩
    rw [ha]
    show decide ((i : Int) ≥ 0) = true
    exact decide_eq_true (by omega)
theorem implHas_eq (l : List ByteArray) (s : ByteArray) (h : l.length ≤ LIM) (k : Bool → Res) : slices_Contains_string l s k = k (hasB l s) := by
  unfold slices_Contains_string slices_Index_string slices_Index_string_l0 hasB
  have := find_loop l (fun i => i) (fun x => sEq s x) (step := slices_Index_string_l0_s l s (nI l.length)) ((fun (_ : Unit) => k (decide ((-1 : Int) ≥ 0))), (fun (t : Int) => k (decide (t ≥ 0)))) (fun r => k (decide (r ≥ 0))) h (fun i rec hi => by
    show slices_Index_string_l0_r _ _ _ _ _ _ _ = _
    unfold slices_Index_string_l0_r
    unfold LIM at h
    rw [nI_lt hi, cond_true, inb_nat hi, cond_true, nth_nat _ _ _ hi, wi64_in (n := (i : Int) + 1) (by omega)]) (fun rec => by
    show slices_Index_string_l0_r _ _ _ _ _ _ _ = _
    unfold slices_Index_string_l0_r
    rw [nI_ge, cond_false])
  refine this.trans ?_
  rw [idxI_any]
  have : (fun x => sEq s x) = fun x => sEq x s := by funext x; exact sEq_comm s x
  rw [this]

/-! ### copies -/
theorem flat_self {α : Type} : (l : List α) → l.flatMap (fun x => [x]) = l
  | [] => rfl
  | x :: l => by rw [List.flatMap_cons, flat_self l]; rfl
theorem specCopy_eq (l : List (List V)) (h : l.length ≤ 1048576) (h2 : ∀ r ∈ l, r.length ≤ 1048576) (k : List (List V) → Res) : spec_l03Copy l k = k l := by
  unfold spec_l03Copy spec_l03Copy_l0
  have := flat_loop l (fun i out => (out, i)) (fun x => [x]) 1048576 [] (step := spec_l03Copy_l0_s l (nI l.length)) (fun out => k out) (fun out => k out) (by unfold LIM; omega) (fun i hi _ => by
    rw [flat_self, List.nil_append, List.length_take]; omega) (by simp) (fun i out rec hi ho hB => by
    show spec_l03Copy_l0_r _ _ _ _ _ _ = _
    unfold spec_l03Copy_l0_r spec_l03Row
    have := h2 _ (List.getElem_mem hi)
    dsimp only
    rw [nI_lt hi, cond_true, inb_nat hi, cond_true, nth_nat _ _ _ hi, lim_of (by unfold LIM; omega), cond_true, lim_of (by unfold LIM; omega), cond_true, wi64_in (n := (i : Int) + 1) (by omega)]) (fun out rec => by
    show spec_l03Copy_l0_r _ _ _ _ _ _ = _
    unfold spec_l03Copy_l0_r
    dsimp only
    rw [nI_ge, cond_false])
  refine this.trans ?_
  rw [flat_self, List.nil_append]
theorem implCopy_eq (l : List (List V)) (h : l.length ≤ 1048576) (h2 : ∀ r ∈ l, r.length ≤ 1048576) (k : List (List V) → Res) : impl_copyRows l k = k l := by
  unfold impl_copyRows impl_copyRows_l0
  have := flat_loop l (fun i out => (out, i)) (fun x => [x]) 1048576 [] (step := impl_copyRows_l0_s l (nI l.length)) (fun out => k out) (fun out => k out) (by unfold LIM; omega) (fun i hi _ => by
    rw [flat_self, List.nil_append, List.length_take]; omega) (by simp) (fun i out rec hi ho hB => by
    show impl_copyRows_l0_r _ _ _ _ _ _ = _
    unfold impl_copyRows_l0_r impl_copyVals
    have := h2 _ (List.getElem_mem hi)
    dsimp only
    rw [nI_lt hi, cond_true, inb_nat hi, cond_true, nth_nat _ _ _ hi, lim_of (by unfold LIM; omega), cond_true, lim_of (by unfold LIM; omega), cond_true, wi64_in (n := (i : Int) + 1) (by omega)]) (fun out rec => by
    show impl_copyRows_l0_r _ _ _ _ _ _ = _
    unfold impl_copyRows_l0_r
    dsimp only
    rw [nI_ge, cond_false])
  refine this.trans ?_
  rw [flat_self, List.nil_append]
theorem specCopyT_eq (t : T) (h : msr yT t ≤ 1048576) (k : T → Res) : spec_l02Table t k = k t := by
  obtain ⟨m1, m2, m3, m4, m5⟩ := msr_T h
  unfold spec_l02Table
  simp only [both_self]
  rw [lim_of (by unfold LIM; omega), cond_true, lim_of (by unfold LIM; omega), cond_true]
theorem implCopyT_eq (t : T) (h : msr yT t ≤ 1048576) (k : T → Res) : impl_copyTable t k = k t := by
  obtain ⟨m1, m2, m3, m4, m5⟩ := msr_T h
  unfold impl_copyTable impl_copyTexts
  rw [lim_of (by unfold LIM; omega), cond_true, lim_of (by unfold LIM; omega), cond_true]

/-! ### what is let out -/
def outF (p : List ByteArray) (d : DB) (i : Nat) (out : DB) (t : T) : Except Unit DB := .ok (bif hasB p t.1 then (out.1 ++ [t], out.2 ++ [nth [] d.2 (i : Int)]) else out)
def outW (p : List ByteArray) (d : DB) : Except Unit DB := walkL (outF p d) 0 d.1 ([], [])
def outV (p : List ByteArray) (d : DB) : DB := match outW p d with | .ok r => r | .error _ => ([], [])
def pubV (p : List ByteArray) (d : DB) : DB := bif pubB p && dbB d then outV p d else ([], [])
theorem outW_ok (p : List ByteArray) (d : DB) : outW p d = .ok (outV p d) := by
  have h : ∀ (l : List T) (i : Nat) (out : DB), ∃ r, walkL (outF p d) i l out = .ok r := by
    intro l
    induction l with
    | nil => intro i out; exact ⟨out, rfl⟩
    | cons x l ih => intro i out; exact ih (i + 1) _
  obtain ⟨r, hr⟩ := h d.1 0 ([], [])
  have hw : outW p d = .ok r := hr
  unfold outV
  rw [hw]
theorem specPubDb_eq (p : List ByteArray) (d : DB) (hp : msr (.slice .str) p ≤ 1048576) (h : msr yDB d ≤ 1048576) (k : DB → Res) : spec_PubDb p d k = k (pubV p d) := by
  obtain ⟨m1, m2, m3, m4, m5⟩ := msr_DB h
  obtain ⟨n1, n2⟩ := msr_P hp
  unfold spec_PubDb pubV
  rw [specPub_eq p hp, specDb_eq d h]
  cases pp : pubB p
  · rfl
  · cases dd : dbB d
    · rfl
    · obtain ⟨p1, p2, p3⟩ := dbB_parts dd
      rw [Bool.not_true, cond_false, cond_false, Bool.true_and, cond_true]
      unfold spec_PubDb_l0
      have := walk_loop d.1 (fun i out => (i, out)) (outF p d) (fun i out => out.1.length ≤ i ∧ out.2.length ≤ i) (step := spec_PubDb_l0_s d.1 (nI d.1.length) p d) (fun (out : DB) => k out) (fun out => k out) (fun _ => none) ([], []) (by unfold LIM; omega) ⟨by simp, by simp⟩ (fun i out out' hi ho hf => by
        unfold outF at hf
        cases hh : hasB p d.1[i].1
        · rw [hh] at hf; cases hf
          exact ⟨by have := ho.1; simp only [cond_false]; omega, by have := ho.2; simp only [cond_false]; omega⟩
        · rw [hh] at hf; cases hf
          exact ⟨by have := ho.1; simp only [cond_true, List.length_append, List.length_singleton]; omega, by have := ho.2; simp only [cond_true, List.length_append, List.length_singleton]; omega⟩) (fun i out rec hi ho => by
        have h2 : i < d.2.length := by omega
        have hrows := p3 i hi h2
        obtain ⟨r1, r2, r3⟩ := rowsB_parts hrows
        have hp8 := tabB_parts r1
        have q1 := ho.1
        have q2 := ho.2
        show spec_PubDb_l0_r _ _ p d _ _ _ _ = _
        unfold spec_PubDb_l0_r outF
        dsimp only
        rw [nI_lt hi, cond_true, inb_nat hi, cond_true, nth_nat _ _ _ hi]
        unfold spec_Told
        rw [specPub_eq p hp, pp, cond_true, specHas_eq _ _ (by unfold LIM; omega)]
        dsimp only
        cases hasB p d.1[i].1
        · rw [cond_false, cond_false, wi64_in (n := (i : Int) + 1) (by omega)]
        · rw [cond_true, cond_true, specCopyT_eq _ (m4 _ (List.getElem_mem hi)), lim_of (by unfold LIM; omega), cond_true, inb_nat h2, cond_true, nth_nat _ _ _ h2, specCopy_eq _ (by omega) (fun r hr => by have := rowB_len (r3 r hr); omega), lim_of (by unfold LIM; omega), cond_true, wi64_in (n := (i : Int) + 1) (by omega)]) (fun out rec _ => by
        show spec_PubDb_l0_r _ _ p d _ _ _ _ = _
        unfold spec_PubDb_l0_r
        dsimp only
        rw [nI_ge, cond_false])
      refine this.trans ?_
      have hw : walkL (outF p d) 0 d.1 ([], []) = .ok (outV p d) := outW_ok p d
      rw [hw]
theorem implPubDb_eq (p : List ByteArray) (d : DB) (hp : msr (.slice .str) p ≤ 1048576) (h : msr yDB d ≤ 1048576) (k : DB → Res) : impl_PubDb p d k = k (pubV p d) := by
  obtain ⟨m1, m2, m3, m4, m5⟩ := msr_DB h
  obtain ⟨n1, n2⟩ := msr_P hp
  unfold impl_PubDb pubV
  rw [implPub_eq p hp, implDb_eq d h]
  cases pp : pubB p
  · rfl
  · cases dd : dbB d
    · rfl
    · obtain ⟨p1, p2, p3⟩ := dbB_parts dd
      rw [Bool.not_true, cond_false, cond_false, Bool.true_and, cond_true]
      unfold impl_PubDb_l0
      have := walk_loop d.1 (fun i out => (i, out)) (outF p d) (fun i out => out.1.length ≤ i ∧ out.2.length ≤ i) (step := impl_PubDb_l0_s d.1 (nI d.1.length) p d) (fun (out : DB) => k out) (fun out => k out) (fun _ => none) ([], []) (by unfold LIM; omega) ⟨by simp, by simp⟩ (fun i out out' hi ho hf => by
        unfold outF at hf
        cases hh : hasB p d.1[i].1
        · rw [hh] at hf; cases hf
          exact ⟨by have := ho.1; simp only [cond_false]; omega, by have := ho.2; simp only [cond_false]; omega⟩
        · rw [hh] at hf; cases hf
          exact ⟨by have := ho.1; simp only [cond_true, List.length_append, List.length_singleton]; omega, by have := ho.2; simp only [cond_true, List.length_append, List.length_singleton]; omega⟩) (fun i out rec hi ho => by
        have h2 : i < d.2.length := by omega
        have hrows := p3 i hi h2
        obtain ⟨r1, r2, r3⟩ := rowsB_parts hrows
        have hp8 := tabB_parts r1
        have q1 := ho.1
        have q2 := ho.2
        show impl_PubDb_l0_r _ _ p d _ _ _ _ = _
        unfold impl_PubDb_l0_r outF
        dsimp only
        rw [nI_lt hi, cond_true, inb_nat hi, cond_true, nth_nat _ _ _ hi]
        rw [implHas_eq _ _ (by unfold LIM; omega)]
        cases hasB p d.1[i].1
        · rw [cond_false, cond_false, wi64_in (n := (i : Int) + 1) (by omega)]
        · rw [cond_true, cond_true, implCopyT_eq _ (m4 _ (List.getElem_mem hi)), lim_of (by unfold LIM; omega), cond_true, inb_nat h2, cond_true, nth_nat _ _ _ h2, implCopy_eq _ (by omega) (fun r hr => by have := rowB_len (r3 r hr); omega), lim_of (by unfold LIM; omega), cond_true, wi64_in (n := (i : Int) + 1) (by omega)]) (fun out rec _ => by
        show impl_PubDb_l0_r _ _ p d _ _ _ _ = _
        unfold impl_PubDb_l0_r
        dsimp only
        rw [nI_ge, cond_false])
      refine this.trans ?_
      have hw : walkL (outF p d) 0 d.1 ([], []) = .ok (outV p d) := outW_ok p d
      rw [hw]
theorem msr_app1 {e : Ty} (l m : List (El e)) : msr (.slice e) (l ++ m) = msr (.slice e) l + msr (.slice e) m := by
  rw [msr_slice, msr_slice, msr_slice, List.length_append, List.map_append, List.sum_append]; omega
theorem msr_cons {e : Ty} (x : El e) (l : List (El e)) : msr (.slice e) (x :: l) = msr (.slice e) [x] + msr (.slice e) l := msr_app1 [x] l
theorem pubV_msr (p : List ByteArray) (d : DB) (h : msr yDB d ≤ 1048576) : msr yDB (pubV p d) ≤ 1048576 := by
  unfold pubV
  cases pp : pubB p
  · exact Nat.zero_le _
  · cases dd : dbB d
    · exact Nat.zero_le _
    · obtain ⟨p1, p2, p3⟩ := dbB_parts dd
      have hw : walkL (outF p d) 0 d.1 ([], []) = .ok (outV p d) := outW_ok p d
      have key : ∀ (l : List T) (i : Nat) (out r : DB), i + l.length = d.2.length → walkL (outF p d) i l out = .ok r → msr (.slice yT) r.1 ≤ msr (.slice yT) out.1 + msr (.slice yT) l ∧ msr (.slice (.slice (.slice yV))) r.2 ≤ msr (.slice (.slice (.slice yV))) out.2 + msr (.slice (.slice (.slice yV))) (d.2.drop i) := by
        intro l
        induction l with
        | nil =>
          intro i out r hi hr
          simp only [walkL, Except.ok.injEq] at hr
          subst hr
          exact ⟨by omega, by omega⟩
        | cons x l ih =>
          intro i out r hi hr
          rw [List.length_cons] at hi
          have hi' : i < d.2.length := by omega
          simp only [walkL] at hr
          unfold outF at hr
          have := ih (i + 1) _ r (by omega) hr
          rw [List.drop_eq_getElem_cons hi', msr_cons (e := yT) x l, msr_cons (e := .slice (.slice yV)) d.2[i]]
          cases hh : hasB p x.1
          · rw [hh] at this
            simp only [cond_false] at this
            exact ⟨by omega, by omega⟩
          · rw [hh] at this
            simp only [cond_true] at this
            rw [nth_nat _ _ _ hi', msr_app1 (e := yT), msr_app1 (e := .slice (.slice yV))] at this
            exact ⟨by omega, by omega⟩
      have := key d.1 0 ([], []) (outV p d) (by omega) hw
      rw [List.drop_zero] at this
      have z1 : msr (.slice yT) [] = 0 := rfl
      have z2 : msr (.slice (.slice (.slice yV))) [] = 0 := rfl
      have e1 : msr yDB d = msr (.slice yT) d.1 + msr (.slice (.slice (.slice yV))) d.2 := rfl
      have e2 : msr yDB (outV p d) = msr (.slice yT) (outV p d).1 + msr (.slice (.slice (.slice yV))) (outV p d).2 := rfl
      dsimp only at this
      rw [z1, z2] at this
      rw [Bool.true_and, cond_true]
      omega
end Go.PI.G
namespace Go.PI.G
open Go Go.PI Go.Proofs

theorem markText_loop (k : ByteArray → Res) : ∀ (m n d : Nat) (s : ByteArray), n < m → 0 < n → n ≤ 4294967296 → n < 10 ^ (d + 1) → s.size + d ≤ 1000 →
    iter laws_markText_l0_s m ((n : Int), s) k = k (digt n ++ s)
  | 0, n, d, s, h, _, _, _, _ => by omega
  | m + 1, n, d, s, h, hn, hb, hd, hs => by
    rw [iter_succ]
    show laws_markText_l0_r _ _ _ _ = _
    unfold laws_markText_l0_r
    have h9 : decide ((n : Int) > 0) = true := decide_eq_true (by omega)
    rw [h9, cond_true, tdiv_nat, tmod_nat, wi64_of (n := ((n / 10 : Nat) : Int)) (by omega) (by omega)]
    show (bif lim ((dgt ((n % 10 : Nat) : Int)).size + s.size) then iter laws_markText_l0_s m (((n / 10 : Nat) : Int), dgt ((n % 10 : Nat) : Int) ++ s) k else none) = _
    rw [dgt_size, lim_of (by unfold LIM; omega), cond_true]
    by_cases h1 : n < 10
    · have h10 : n / 10 = 0 := by omega
      have h11 : n % 10 = n := by omega
      rw [h10, h11, digt_lo h1]
      obtain ⟨m, rfl⟩ : ∃ e, m = e + 1 := ⟨m - 1, by omega⟩
      rw [iter_succ]
      show laws_markText_l0_r _ _ _ _ = _
      unfold laws_markText_l0_r
      have h0 : decide (((0 : Nat) : Int) > 0) = false := decide_eq_false (by omega)
      rw [h0, cond_false]
    · obtain ⟨d, rfl⟩ : ∃ e, d = e + 1 := by
        cases d with
        | zero => exact absurd (by simpa using hd) h1
        | succ d => exact ⟨d, rfl⟩
      rw [markText_loop k m (n / 10) d _ (by omega) (by omega) (by omega) (Nat.div_lt_of_lt_mul (by rw [Nat.pow_succ] at hd; omega)) (by rw [ByteArray.size_append, dgt_size]; omega), digt_hi h1, ByteArray.append_assoc]
theorem markText_eq (k : Int) (h : 1 ≤ k ∧ k ≤ 4294967296) (K : ByteArray → Res) : laws_markText k K = K (mT k) := by
  unfold laws_markText laws_markText_l0
  have h0 : decide (k ≤ 0) = false := decide_eq_false (by omega)
  have := markText_loop (fun (out : ByteArray) => bif lim (1 + (ByteArray.size out)) then K (z_m ++ out) else none) FUEL k.toNat 12 eS (FUEL_lt (by omega)) (by omega) (by omega) (by omega) (by show 0 + 12 ≤ 1000; omega)
  rw [show ((k.toNat : Nat) : Int) = k by omega, eS_app] at this
  rw [h0, cond_false]
  refine this.trans ?_
  have hs := digt_size 12 k.toNat (by omega)
  rw [lim_of (by unfold LIM; omega), cond_true]
  rfl
end Go.PI.G
set_option maxRecDepth 10000
namespace Go.PI.G
open Go Go.PI Go.Proofs

theorem toVal_eq (a : Int × Int × ByteArray) (h : msr (.pair (.int .i64) (.pair (.int .i64) .str)) a ≤ 1048576) (k : qV → Res) : laws_toVal a k = k a := by
  unfold laws_toVal
  rfl

theorem szVal_eq (a : Int × Int × ByteArray) (left : Int) (h0 : 0 ≤ left) (h1 : left ≤ 1048576) (hw : Wf (.pair (.int .i64) (.pair (.int .i64) .str)) a) (k : Int → Res) : laws_szVal a left k = k (szR left (msr (.pair (.int .i64) (.pair (.int .i64) .str)) a)) := by
  have hm : msr (.pair (.int .i64) (.pair (.int .i64) .str)) a = ByteArray.size a.2.2 + 0 := by simp only [msr]; omega
  rw [hm]
  unfold laws_szVal
  have hx0 : ByteArray.size a.2.2 ≤ maxLen := hw.2.2
  unfold maxLen at hx0
  rw [wi64_in (by unfold nI; omega)]
  by_cases hb0 : ((ByteArray.size a.2.2 : Nat) : Int) ≤ left
  rotate_left
  · rw [szR_stop hb0, dec_lt_t (by unfold nI; omega), cond_true]
  rw [dec_lt_f (by unfold nI; omega), cond_false, szR_step hb0, show left - nI (ByteArray.size a.2.2) = left - ((ByteArray.size a.2.2 : Nat) : Int) from rfl]
  exact sz_end (by omega)

theorem eqVal_eq (a : Int × Int × ByteArray) (h : msr (.pair (.int .i64) (.pair (.int .i64) .str)) a ≤ 1048576) (k : Bool → Res) : laws_eqVal a a k = k true := by
  unfold laws_eqVal
  simp only [bne_f, sNe_self, beq_self_eq_true, cond_false, Bool.not_true]
end Go.PI.G
namespace Go.PI.G
open Go Go.PI Go.Proofs

theorem toCol_eq (a : ByteArray × Int × Bool × Bool × Int × Int × ByteArray) (h : msr (.pair .str (.pair (.int .i64) (.pair .bool (.pair .bool (.pair (.int .i64) (.pair (.int .i64) .str)))))) a ≤ 1048576) (k : qC → Res) : laws_toCol a k = k a := by
  have h4 : msr (.pair (.int .i64) (.pair (.int .i64) .str)) a.2.2.2.2 ≤ 1048576 := by
    have : msr (.pair (.int .i64) (.pair (.int .i64) .str)) a.2.2.2.2 ≤ msr (.pair .str (.pair (.int .i64) (.pair .bool (.pair .bool (.pair (.int .i64) (.pair (.int .i64) .str)))))) a := by first | exact Nat.le_refl _ | (simp only [msr]; omega)
    omega
  unfold laws_toCol
  simp only [toVal_eq _ h4]

theorem szCol_eq (a : ByteArray × Int × Bool × Bool × Int × Int × ByteArray) (left : Int) (h0 : 0 ≤ left) (h1 : left ≤ 1048576) (hw : Wf (.pair .str (.pair (.int .i64) (.pair .bool (.pair .bool (.pair (.int .i64) (.pair (.int .i64) .str)))))) a) (k : Int → Res) : laws_szCol a left k = k (szR left (msr (.pair .str (.pair (.int .i64) (.pair .bool (.pair .bool (.pair (.int .i64) (.pair (.int .i64) .str)))))) a)) := by
  have hm : msr (.pair .str (.pair (.int .i64) (.pair .bool (.pair .bool (.pair (.int .i64) (.pair (.int .i64) .str)))))) a = ByteArray.size a.1 + (msr (.pair (.int .i64) (.pair (.int .i64) .str)) a.2.2.2.2 + 0) := by simp only [msr]; omega
  rw [hm]
  unfold laws_szCol
  have hx0 : ByteArray.size a.1 ≤ maxLen := hw.1
  unfold maxLen at hx0
  rw [wi64_in (by unfold nI; omega)]
  by_cases hb0 : ((ByteArray.size a.1 : Nat) : Int) ≤ left
  rotate_left
  · rw [szR_stop hb0, dec_lt_t (by unfold nI; omega), cond_true]
  rw [dec_lt_f (by unfold nI; omega), cond_false, szR_step hb0, show left - nI (ByteArray.size a.1) = left - ((ByteArray.size a.1 : Nat) : Int) from rfl]
  rw [szVal_eq _ _ (by omega) (by omega) hw.2.2.2.2]
  by_cases hb1 : ((msr (.pair (.int .i64) (.pair (.int .i64) .str)) a.2.2.2.2 : Nat) : Int) ≤ left - (ByteArray.size a.1 : Nat)
  rotate_left
  · rw [szR_neg hb1, szR_stop hb1, dec_lt_t (by omega), cond_true]
  rw [szR_pos hb1, szR_step hb1, dec_lt_f (by omega), cond_false]
  exact sz_end (by omega)

theorem eqCol_eq (a : ByteArray × Int × Bool × Bool × Int × Int × ByteArray) (h : msr (.pair .str (.pair (.int .i64) (.pair .bool (.pair .bool (.pair (.int .i64) (.pair (.int .i64) .str)))))) a ≤ 1048576) (k : Bool → Res) : laws_eqCol a a k = k true := by
  have h4 : msr (.pair (.int .i64) (.pair (.int .i64) .str)) a.2.2.2.2 ≤ 1048576 := by
    have : msr (.pair (.int .i64) (.pair (.int .i64) .str)) a.2.2.2.2 ≤ msr (.pair .str (.pair (.int .i64) (.pair .bool (.pair .bool (.pair (.int .i64) (.pair (.int .i64) .str)))))) a := by first | exact Nat.le_refl _ | (simp only [msr]; omega)
    omega
  unfold laws_eqCol
  simp only [bne_f, sNe_self, beq_self_eq_true, cond_false, Bool.not_true, eqVal_eq _ h4]
end Go.PI.G
namespace Go.PI.G
open Go Go.PI Go.Proofs

theorem toColS_eq (a : qE) (h : msr (.slice (.pair .str (.pair (.int .i64) (.pair .bool (.pair .bool (.pair (.int .i64) (.pair (.int .i64) .str))))))) a ≤ 1048576) (k : qE → Res) : laws_toColS a k = k a := by
  have hl : a.length ≤ 1048576 := msr_len h
  unfold laws_toColS
  rw [mkOk_of (by unfold LIM; omega), cond_true]
  have := to_loop ((eS, 0, false, false, 0, 0, eS)) a id (step := laws_toColS_l0_s a) (fun out => k out) (by unfold LIM; omega) (fun out i rec hi hlo => by
    show laws_toColS_l0_r a _ _ _ _ = _
    unfold laws_toColS_l0_r
    dsimp only
    simp only [nI_lt hi, cond_true, inb_nat hi, inb_nat (show i < out.length by omega), nth_nat _ _ _ hi, upd_nat, wi64_in (n := (i : Int) + 1) (by omega), toCol_eq _ (msr_mem h (List.getElem_mem hi))]
    rfl) (fun out rec => by
    show laws_toColS_l0_r a _ _ _ _ = _
    unfold laws_toColS_l0_r
    dsimp only
    rw [nI_ge, cond_false])
  rw [List.map_id] at this
  exact this

theorem szColS_eq (a : qE) (left : Int) (h0 : 0 ≤ left) (h1 : left ≤ 1048576) (hw : Wf (.slice (.pair .str (.pair (.int .i64) (.pair .bool (.pair .bool (.pair (.int .i64) (.pair (.int .i64) .str))))))) a) (k : Int → Res) : laws_szColS a left k = k (szR left (msr (.slice (.pair .str (.pair (.int .i64) (.pair .bool (.pair .bool (.pair (.int .i64) (.pair (.int .i64) .str))))))) a)) := by
  have hl : a.length ≤ maxLen := hw.1
  have hm : msr (.slice (.pair .str (.pair (.int .i64) (.pair .bool (.pair .bool (.pair (.int .i64) (.pair (.int .i64) .str))))))) a = a.length + (a.map (msr (.pair .str (.pair (.int .i64) (.pair .bool (.pair .bool (.pair (.int .i64) (.pair (.int .i64) .str)))))))).sum := rfl
  rw [hm]
  unfold laws_szColS
  refine sz_str (F := fun q => laws_szColS_l0 a FUEL q 0 (fun left1 => k left1) (fun _ => k (-1))) (k := k) h0 h1 hl fun hb => ?_
  unfold laws_szColS_l0
  rw [sz_loop (msr (.pair .str (.pair (.int .i64) (.pair .bool (.pair .bool (.pair (.int .i64) (.pair (.int .i64) .str))))))) a _ (by omega) (fun left i rec hi h0 h1 => ?_) (fun left rec => ?_) _ (by omega) (by omega)]
  · by_cases hb : (((a.map (msr (.pair .str (.pair (.int .i64) (.pair .bool (.pair .bool (.pair (.int .i64) (.pair (.int .i64) .str)))))))).sum : Nat) : Int) ≤ left - a.length
    · rw [if_pos hb, szR_pos hb]
    · rw [if_neg hb, szR_neg hb]
  · show laws_szColS_l0_r a _ _ _ _ _ = _
    have hx := hw.2 _ (List.getElem_mem hi)
    unfold laws_szColS_l0_r
    rw [nI_lt hi, cond_true, inb_nat hi, cond_true, nth_nat _ _ _ hi, szCol_eq _ _ h0 h1 hx]
    have hi9 : (i : Int) < 4611686018427387904 := by unfold maxLen at hl; omega
    rw [wi64_in (n := (i : Int) + 1) (by omega)]
    by_cases hb : ((msr (.pair .str (.pair (.int .i64) (.pair .bool (.pair .bool (.pair (.int .i64) (.pair (.int .i64) .str)))))) a[i] : Nat) : Int) ≤ left
    · rw [if_pos hb, szR_pos hb, dec_lt_f (by omega), cond_false]
    · rw [if_neg hb, szR_neg hb, dec_lt_t (by omega), cond_true]
  · show laws_szColS_l0_r a _ _ _ _ _ = _
    unfold laws_szColS_l0_r
    rw [nI_ge, cond_false]

theorem eqColS_eq (a : qE) (h : msr (.slice (.pair .str (.pair (.int .i64) (.pair .bool (.pair .bool (.pair (.int .i64) (.pair (.int .i64) .str))))))) a ≤ 1048576) (k : Bool → Res) : laws_eqColS a a k = k true := by
  have hl : a.length ≤ 1048576 := msr_len h
  unfold laws_eqColS
  rw [bne_f, cond_false]
  unfold laws_eqColS_l0
  rw [eq_loop a _ (by unfold LIM; omega) (fun i rec hi => ?_) (fun rec => ?_)]
  · show laws_eqColS_l0_r a a _ _ _ _ = _
    unfold laws_eqColS_l0_r
    simp only [nI_lt hi, cond_true, inb_nat hi, nth_nat _ _ _ hi, wi64_in (n := (i : Int) + 1) (by omega), bne_f, sNe_self, cond_false, Bool.not_true, eqCol_eq _ (msr_mem h (List.getElem_mem hi))]
  · show laws_eqColS_l0_r a a _ _ _ _ = _
    unfold laws_eqColS_l0_r
    rw [nI_ge, cond_false]

theorem markColS_eq (a : qE) (k : Int) (h : msr (.slice (.pair .str (.pair (.int .i64) (.pair .bool (.pair .bool (.pair (.int .i64) (.pair (.int .i64) .str))))))) a ≤ 1048576) (h0 : 1 ≤ k) (hk : k + (wgt (.slice (.pair .str (.pair (.int .i64) (.pair .bool (.pair .bool (.pair (.int .i64) (.pair (.int .i64) .str))))))) a : Int) ≤ 4294967296) (K : Int → qE → Res) : laws_markColS a k K = K (k + (wgt (.slice (.pair .str (.pair (.int .i64) (.pair .bool (.pair .bool (.pair (.int .i64) (.pair (.int .i64) .str))))))) a : Int)) (mkL (wgt (.pair .str (.pair (.int .i64) (.pair .bool (.pair .bool (.pair (.int .i64) (.pair (.int .i64) .str))))))) (mk (.pair .str (.pair (.int .i64) (.pair .bool (.pair .bool (.pair (.int .i64) (.pair (.int .i64) .str))))))) a k) := by
  have hl : a.length ≤ 1048576 := msr_len h
  have hwg : wgt (.slice (.pair .str (.pair (.int .i64) (.pair .bool (.pair .bool (.pair (.int .i64) (.pair (.int .i64) .str))))))) a = (a.map (wgt (.pair .str (.pair (.int .i64) (.pair .bool (.pair .bool (.pair (.int .i64) (.pair (.int .i64) .str)))))))).sum := rfl
  rw [hwg] at hk ⊢
  unfold laws_markColS laws_markColS_l3
  have := mark_loop (wgt (.pair .str (.pair (.int .i64) (.pair .bool (.pair .bool (.pair (.int .i64) (.pair (.int .i64) .str))))))) (mk (.pair .str (.pair (.int .i64) (.pair .bool (.pair .bool (.pair (.int .i64) (.pair (.int .i64) .str))))))) a k (fun l k i => (l, k, i)) (step := laws_markColS_l3_s) (fun l k => K k l) (fun l k => K k l) (by unfold LIM; omega) (fun l i rec hi hll hli hla => by
    have e1 := sum_take (wgt (.pair .str (.pair (.int .i64) (.pair .bool (.pair .bool (.pair (.int .i64) (.pair (.int .i64) .str))))))) a i hi
    have e2 := sum_take_le (wgt (.pair .str (.pair (.int .i64) (.pair .bool (.pair .bool (.pair (.int .i64) (.pair (.int .i64) .str))))))) a (i + 1)
    generalize hκ : k + ((((a.take i).map (wgt (.pair .str (.pair (.int .i64) (.pair .bool (.pair .bool (.pair (.int .i64) (.pair (.int .i64) .str)))))))).sum : Nat) : Int) = κ
    have hκ1 : 1 ≤ κ ∧ κ + (wgt (.pair .str (.pair (.int .i64) (.pair .bool (.pair .bool (.pair (.int .i64) (.pair (.int .i64) .str)))))) a[i] : Int) ≤ 4294967296 := by omega
    have hw : (wgt (.pair .str (.pair (.int .i64) (.pair .bool (.pair .bool (.pair (.int .i64) (.pair (.int .i64) .str)))))) a[i] : Int) = 1 + 1 + 1 + 1 + 1 + 1 + 1 := by
      have : wgt (.pair .str (.pair (.int .i64) (.pair .bool (.pair .bool (.pair (.int .i64) (.pair (.int .i64) .str)))))) a[i] = 1 + 1 + 1 + 1 + 1 + 1 + 1 := by first | rfl | (simp only [wgt]; done) | (simp only [wgt]; omega)
      first | rfl | omega
    show laws_markColS_l3_r _ _ _ _ _ = _
    dsimp only
    unfold laws_markColS_l3_r laws_markColS_p0 laws_markColS_p1 laws_markColS_p2
    rw [← hll] at hi
    have hi' : i < a.length := by omega
    simp (disch := first | assumption | omega) only [show nI a.length = nI l.length by rw [hll], nI_lt, inb_nat, upd_len, cond_true, nth_upd, upd_upd, nth_nat, hla, wi64_in, markText_eq, ← hll]
    rw [upd_nat]
    congr 3 <;> first | rfl | omega | skip) (fun l k rec hll => by
    show laws_markColS_l3_r _ _ _ _ _ = _
    dsimp only
    unfold laws_markColS_l3_r laws_markColS_p0 laws_markColS_p1 laws_markColS_p2
    rw [← hll, nI_ge, cond_false])
  exact this

theorem heldColS_eq (a : qE) (k : Int) (h : msr (.slice (.pair .str (.pair (.int .i64) (.pair .bool (.pair .bool (.pair (.int .i64) (.pair (.int .i64) .str))))))) a ≤ 1048576) (h0 : 1 ≤ k) (hk : k + (wgt (.slice (.pair .str (.pair (.int .i64) (.pair .bool (.pair .bool (.pair (.int .i64) (.pair (.int .i64) .str))))))) a : Int) ≤ 4294967296) (K : Int → Res) : laws_heldColS (mkL (wgt (.pair .str (.pair (.int .i64) (.pair .bool (.pair .bool (.pair (.int .i64) (.pair (.int .i64) .str))))))) (mk (.pair .str (.pair (.int .i64) (.pair .bool (.pair .bool (.pair (.int .i64) (.pair (.int .i64) .str))))))) a k) k K = K (k + (wgt (.slice (.pair .str (.pair (.int .i64) (.pair .bool (.pair .bool (.pair (.int .i64) (.pair (.int .i64) .str))))))) a : Int)) := by
  have hl : a.length ≤ 1048576 := msr_len h
  have hwg : wgt (.slice (.pair .str (.pair (.int .i64) (.pair .bool (.pair .bool (.pair (.int .i64) (.pair (.int .i64) .str))))))) a = (a.map (wgt (.pair .str (.pair (.int .i64) (.pair .bool (.pair .bool (.pair (.int .i64) (.pair (.int .i64) .str)))))))).sum := rfl
  rw [hwg] at hk ⊢
  have hll := mkL_len (wgt (.pair .str (.pair (.int .i64) (.pair .bool (.pair .bool (.pair (.int .i64) (.pair (.int .i64) .str))))))) (mk (.pair .str (.pair (.int .i64) (.pair .bool (.pair .bool (.pair (.int .i64) (.pair (.int .i64) .str))))))) a k
  have hg := mkL_get (wgt (.pair .str (.pair (.int .i64) (.pair .bool (.pair .bool (.pair (.int .i64) (.pair (.int .i64) .str))))))) (mk (.pair .str (.pair (.int .i64) (.pair .bool (.pair .bool (.pair (.int .i64) (.pair (.int .i64) .str))))))) a k
  generalize mkL (wgt (.pair .str (.pair (.int .i64) (.pair .bool (.pair .bool (.pair (.int .i64) (.pair (.int .i64) .str))))))) (mk (.pair .str (.pair (.int .i64) (.pair .bool (.pair .bool (.pair (.int .i64) (.pair (.int .i64) .str))))))) a k = l at hll hg
  unfold laws_heldColS laws_heldColS_l0
  have := held_loop (wgt (.pair .str (.pair (.int .i64) (.pair .bool (.pair .bool (.pair (.int .i64) (.pair (.int .i64) .str))))))) a k (fun k i => (k, i)) (step := laws_heldColS_l0_s l) ((fun (k_1 : Int) => K k_1), (fun (_ : Unit) => K (-1))) (fun k => K k) (by unfold LIM; omega) (fun i rec hi => by
    have e1 := sum_take (wgt (.pair .str (.pair (.int .i64) (.pair .bool (.pair .bool (.pair (.int .i64) (.pair (.int .i64) .str))))))) a i hi
    have e2 := sum_take_le (wgt (.pair .str (.pair (.int .i64) (.pair .bool (.pair .bool (.pair (.int .i64) (.pair (.int .i64) .str))))))) a (i + 1)
    have hgi := hg i hi (by omega)
    generalize hκ : k + ((((a.take i).map (wgt (.pair .str (.pair (.int .i64) (.pair .bool (.pair .bool (.pair (.int .i64) (.pair (.int .i64) .str)))))))).sum : Nat) : Int) = κ at hgi
    have hκ1 : 1 ≤ κ ∧ κ + (wgt (.pair .str (.pair (.int .i64) (.pair .bool (.pair .bool (.pair (.int .i64) (.pair (.int .i64) .str)))))) a[i] : Int) ≤ 4294967296 := by omega
    have hw : (wgt (.pair .str (.pair (.int .i64) (.pair .bool (.pair .bool (.pair (.int .i64) (.pair (.int .i64) .str)))))) a[i] : Int) = 1 + 1 + 1 + 1 + 1 + 1 + 1 := by
      have : wgt (.pair .str (.pair (.int .i64) (.pair .bool (.pair .bool (.pair (.int .i64) (.pair (.int .i64) .str)))))) a[i] = 1 + 1 + 1 + 1 + 1 + 1 + 1 := by first | rfl | (simp only [wgt]; done) | (simp only [wgt]; omega)
      first | rfl | omega
    show laws_heldColS_l0_r _ _ _ _ _ _ = _
    dsimp only
    unfold laws_heldColS_l0_r
    have hi' : i < l.length := by omega
    simp (disch := first | assumption | omega) only [nI_lt, inb_nat, cond_true, cond_false, nth_nat, hgi, mk_pair, mk_slice, mk_i64, mk_u8, mk_bool, mk_str, wgt_pair, wgt_int, wgt_bool, wgt_str, Int.natCast_add, Int.natCast_one, ← Int.add_assoc, wi64_in, markText_eq, bne_f, sNe_self, beq_self_eq_true, Bool.not_true, dec_lt_f]
    all_goals (congr 2; omega)) (fun k rec => by
    show laws_heldColS_l0_r _ _ _ _ _ _ = _
    dsimp only
    unfold laws_heldColS_l0_r
    rw [← hll, nI_ge, cond_false])
  exact this
end Go.PI.G
namespace Go.PI.G
open Go Go.PI Go.Proofs

theorem toStringS_eq (a : (List ByteArray)) (h : msr (.slice .str) a ≤ 1048576) (k : (List ByteArray) → Res) : laws_toStringS a k = k a := by
  have hl : a.length ≤ 1048576 := msr_len h
  unfold laws_toStringS
  rw [mkOk_of (by unfold LIM; omega), cond_true]
  have := to_loop (eS) a id (step := laws_toStringS_l0_s a) (fun out => k out) (by unfold LIM; omega) (fun out i rec hi hlo => by
    show laws_toStringS_l0_r a _ _ _ _ = _
    unfold laws_toStringS_l0_r
    dsimp only
    simp only [nI_lt hi, cond_true, inb_nat hi, inb_nat (show i < out.length by omega), nth_nat _ _ _ hi, upd_nat, wi64_in (n := (i : Int) + 1) (by omega)]
    rfl) (fun out rec => by
    show laws_toStringS_l0_r a _ _ _ _ = _
    unfold laws_toStringS_l0_r
    dsimp only
    rw [nI_ge, cond_false])
  rw [List.map_id] at this
  exact this

theorem szStringS_eq (a : (List ByteArray)) (left : Int) (h0 : 0 ≤ left) (h1 : left ≤ 1048576) (hw : Wf (.slice .str) a) (k : Int → Res) : laws_szStringS a left k = k (szR left (msr (.slice .str) a)) := by
  have hl : a.length ≤ maxLen := hw.1
  have hm : msr (.slice .str) a = a.length + (a.map (msr .str)).sum := rfl
  rw [hm]
  unfold laws_szStringS
  refine sz_str (F := fun q => laws_szStringS_l0 a FUEL q 0 (fun left1 => k left1) (fun _ => k (-1))) (k := k) h0 h1 hl fun hb => ?_
  unfold laws_szStringS_l0
  rw [sz_loop (msr .str) a _ (by omega) (fun left i rec hi h0 h1 => ?_) (fun left rec => ?_) _ (by omega) (by omega)]
  · by_cases hb : (((a.map (msr .str)).sum : Nat) : Int) ≤ left - a.length
    · rw [if_pos hb, szR_pos hb]
    · rw [if_neg hb, szR_neg hb]
  · show laws_szStringS_l0_r a _ _ _ _ _ = _
    have hx := hw.2 _ (List.getElem_mem hi)
    unfold laws_szStringS_l0_r
    have hx : a[i].size ≤ maxLen := hx
    unfold maxLen at hx hl
    rw [nI_lt hi, cond_true, inb_nat hi, cond_true, nth_nat _ _ _ hi, wi64_in (n := left - nI a[i].size) (by unfold nI; omega), wi64_in (n := (i : Int) + 1) (by omega)]
    unfold nI
    by_cases hb : ((msr .str a[i] : Nat) : Int) ≤ left
    · have hb' : (a[i].size : Int) ≤ left := hb
      rw [if_pos hb, dec_lt_f (by omega), cond_false]; rfl
    · have hb' : ¬ (a[i].size : Int) ≤ left := hb
      rw [if_neg hb, dec_lt_t (by omega), cond_true]
  · show laws_szStringS_l0_r a _ _ _ _ _ = _
    unfold laws_szStringS_l0_r
    rw [nI_ge, cond_false]

theorem eqStringS_eq (a : (List ByteArray)) (h : msr (.slice .str) a ≤ 1048576) (k : Bool → Res) : laws_eqStringS a a k = k true := by
  have hl : a.length ≤ 1048576 := msr_len h
  unfold laws_eqStringS
  rw [bne_f, cond_false]
  unfold laws_eqStringS_l0
  rw [eq_loop a _ (by unfold LIM; omega) (fun i rec hi => ?_) (fun rec => ?_)]
  · show laws_eqStringS_l0_r a a _ _ _ _ = _
    unfold laws_eqStringS_l0_r
    simp only [nI_lt hi, cond_true, inb_nat hi, nth_nat _ _ _ hi, wi64_in (n := (i : Int) + 1) (by omega), bne_f, sNe_self, cond_false, Bool.not_true]
  · show laws_eqStringS_l0_r a a _ _ _ _ = _
    unfold laws_eqStringS_l0_r
    rw [nI_ge, cond_false]

theorem markStringS_eq (a : (List ByteArray)) (k : Int) (h : msr (.slice .str) a ≤ 1048576) (h0 : 1 ≤ k) (hk : k + (wgt (.slice .str) a : Int) ≤ 4294967296) (K : Int → (List ByteArray) → Res) : laws_markStringS a k K = K (k + (wgt (.slice .str) a : Int)) (mkL (wgt .str) (mk .str) a k) := by
  have hl : a.length ≤ 1048576 := msr_len h
  have hwg : wgt (.slice .str) a = (a.map (wgt .str)).sum := rfl
  rw [hwg] at hk ⊢
  unfold laws_markStringS laws_markStringS_l0
  have := mark_loop (wgt .str) (mk .str) a k (fun l k i => (l, k, i)) (step := laws_markStringS_l0_s) (fun l k => K k l) (fun l k => K k l) (by unfold LIM; omega) (fun l i rec hi hll hli hla => by
    have e1 := sum_take (wgt .str) a i hi
    have e2 := sum_take_le (wgt .str) a (i + 1)
    generalize hκ : k + ((((a.take i).map (wgt .str)).sum : Nat) : Int) = κ
    have hκ1 : 1 ≤ κ ∧ κ + (wgt .str a[i] : Int) ≤ 4294967296 := by omega
    have hw : (wgt .str a[i] : Int) = 1 := by
      have : wgt .str a[i] = 1 := by first | rfl | (simp only [wgt]; done) | (simp only [wgt]; omega)
      first | rfl | omega
    show laws_markStringS_l0_r _ _ _ _ _ = _
    dsimp only
    unfold laws_markStringS_l0_r
    rw [← hll] at hi
    have hi' : i < a.length := by omega
    simp (disch := first | assumption | omega) only [show nI a.length = nI l.length by rw [hll], nI_lt, inb_nat, upd_len, cond_true, nth_upd, upd_upd, nth_nat, hla, wi64_in, markText_eq, ← hll]
    rw [upd_nat]
    congr 3 <;> first | rfl | omega | skip) (fun l k rec hll => by
    show laws_markStringS_l0_r _ _ _ _ _ = _
    dsimp only
    unfold laws_markStringS_l0_r
    rw [← hll, nI_ge, cond_false])
  exact this

theorem heldStringS_eq (a : (List ByteArray)) (k : Int) (h : msr (.slice .str) a ≤ 1048576) (h0 : 1 ≤ k) (hk : k + (wgt (.slice .str) a : Int) ≤ 4294967296) (K : Int → Res) : laws_heldStringS (mkL (wgt .str) (mk .str) a k) k K = K (k + (wgt (.slice .str) a : Int)) := by
  have hl : a.length ≤ 1048576 := msr_len h
  have hwg : wgt (.slice .str) a = (a.map (wgt .str)).sum := rfl
  rw [hwg] at hk ⊢
  have hll := mkL_len (wgt .str) (mk .str) a k
  have hg := mkL_get (wgt .str) (mk .str) a k
  generalize mkL (wgt .str) (mk .str) a k = l at hll hg
  unfold laws_heldStringS laws_heldStringS_l0
  have := held_loop (wgt .str) a k (fun k i => (k, i)) (step := laws_heldStringS_l0_s l) ((fun (k_1 : Int) => K k_1), (fun (_ : Unit) => K (-1))) (fun k => K k) (by unfold LIM; omega) (fun i rec hi => by
    have e1 := sum_take (wgt .str) a i hi
    have e2 := sum_take_le (wgt .str) a (i + 1)
    have hgi := hg i hi (by omega)
    generalize hκ : k + ((((a.take i).map (wgt .str)).sum : Nat) : Int) = κ at hgi
    have hκ1 : 1 ≤ κ ∧ κ + (wgt .str a[i] : Int) ≤ 4294967296 := by omega
    have hw : (wgt .str a[i] : Int) = 1 := by
      have : wgt .str a[i] = 1 := by first | rfl | (simp only [wgt]; done) | (simp only [wgt]; omega)
      first | rfl | omega
    show laws_heldStringS_l0_r _ _ _ _ _ _ = _
    dsimp only
    unfold laws_heldStringS_l0_r
    have hi' : i < l.length := by omega
    simp (disch := first | assumption | omega) only [nI_lt, inb_nat, cond_true, cond_false, nth_nat, hgi, mk_pair, mk_slice, mk_i64, mk_u8, mk_bool, mk_str, wgt_pair, wgt_int, wgt_bool, wgt_str, Int.natCast_add, Int.natCast_one, ← Int.add_assoc, wi64_in, markText_eq, bne_f, sNe_self, beq_self_eq_true, Bool.not_true, dec_lt_f]
    all_goals (congr 2; omega)) (fun k rec => by
    show laws_heldStringS_l0_r _ _ _ _ _ _ = _
    dsimp only
    unfold laws_heldStringS_l0_r
    rw [← hll, nI_ge, cond_false])
  exact this
end Go.PI.G
namespace Go.PI.G
open Go Go.PI Go.Proofs

theorem toTable_eq (a : ByteArray × qE × List ByteArray) (h : msr (.pair .str (.pair (.slice (.pair .str (.pair (.int .i64) (.pair .bool (.pair .bool (.pair (.int .i64) (.pair (.int .i64) .str))))))) (.slice .str))) a ≤ 1048576) (k : qT → Res) : laws_toTable a k = k a := by
  have h1 : msr (.slice (.pair .str (.pair (.int .i64) (.pair .bool (.pair .bool (.pair (.int .i64) (.pair (.int .i64) .str))))))) a.2.1 ≤ 1048576 := by
    have : msr (.slice (.pair .str (.pair (.int .i64) (.pair .bool (.pair .bool (.pair (.int .i64) (.pair (.int .i64) .str))))))) a.2.1 ≤ msr (.pair .str (.pair (.slice (.pair .str (.pair (.int .i64) (.pair .bool (.pair .bool (.pair (.int .i64) (.pair (.int .i64) .str))))))) (.slice .str))) a := by first | exact Nat.le_refl _ | (simp only [msr]; omega)
    omega
  have h2 : msr (.slice .str) a.2.2 ≤ 1048576 := by
    have : msr (.slice .str) a.2.2 ≤ msr (.pair .str (.pair (.slice (.pair .str (.pair (.int .i64) (.pair .bool (.pair .bool (.pair (.int .i64) (.pair (.int .i64) .str))))))) (.slice .str))) a := by first | exact Nat.le_refl _ | (simp only [msr]; omega)
    omega
  unfold laws_toTable
  simp only [toColS_eq _ h1, toStringS_eq _ h2]

theorem szTable_eq (a : ByteArray × qE × List ByteArray) (left : Int) (h0 : 0 ≤ left) (h1 : left ≤ 1048576) (hw : Wf (.pair .str (.pair (.slice (.pair .str (.pair (.int .i64) (.pair .bool (.pair .bool (.pair (.int .i64) (.pair (.int .i64) .str))))))) (.slice .str))) a) (k : Int → Res) : laws_szTable a left k = k (szR left (msr (.pair .str (.pair (.slice (.pair .str (.pair (.int .i64) (.pair .bool (.pair .bool (.pair (.int .i64) (.pair (.int .i64) .str))))))) (.slice .str))) a)) := by
  have hm : msr (.pair .str (.pair (.slice (.pair .str (.pair (.int .i64) (.pair .bool (.pair .bool (.pair (.int .i64) (.pair (.int .i64) .str))))))) (.slice .str))) a = ByteArray.size a.1 + (msr (.slice (.pair .str (.pair (.int .i64) (.pair .bool (.pair .bool (.pair (.int .i64) (.pair (.int .i64) .str))))))) a.2.1 + (msr (.slice .str) a.2.2 + 0)) := by simp only [msr]; omega
  rw [hm]
  unfold laws_szTable
  have hx0 : ByteArray.size a.1 ≤ maxLen := hw.1
  unfold maxLen at hx0
  rw [wi64_in (by unfold nI; omega)]
  by_cases hb0 : ((ByteArray.size a.1 : Nat) : Int) ≤ left
  rotate_left
  · rw [szR_stop hb0, dec_lt_t (by unfold nI; omega), cond_true]
  rw [dec_lt_f (by unfold nI; omega), cond_false, szR_step hb0, show left - nI (ByteArray.size a.1) = left - ((ByteArray.size a.1 : Nat) : Int) from rfl]
  rw [szColS_eq _ _ (by omega) (by omega) hw.2.1]
  by_cases hb1 : ((msr (.slice (.pair .str (.pair (.int .i64) (.pair .bool (.pair .bool (.pair (.int .i64) (.pair (.int .i64) .str))))))) a.2.1 : Nat) : Int) ≤ left - (ByteArray.size a.1 : Nat)
  rotate_left
  · rw [szR_neg hb1, szR_stop hb1, dec_lt_t (by omega), cond_true]
  rw [szR_pos hb1, szR_step hb1, dec_lt_f (by omega), cond_false]
  rw [szStringS_eq _ _ (by omega) (by omega) hw.2.2]
  by_cases hb2 : ((msr (.slice .str) a.2.2 : Nat) : Int) ≤ left - (ByteArray.size a.1 : Nat) - (msr (.slice (.pair .str (.pair (.int .i64) (.pair .bool (.pair .bool (.pair (.int .i64) (.pair (.int .i64) .str))))))) a.2.1 : Nat)
  rotate_left
  · rw [szR_neg hb2, szR_stop hb2, dec_lt_t (by omega), cond_true]
  rw [szR_pos hb2, szR_step hb2, dec_lt_f (by omega), cond_false]
  exact sz_end (by omega)

theorem eqTable_eq (a : ByteArray × qE × List ByteArray) (h : msr (.pair .str (.pair (.slice (.pair .str (.pair (.int .i64) (.pair .bool (.pair .bool (.pair (.int .i64) (.pair (.int .i64) .str))))))) (.slice .str))) a ≤ 1048576) (k : Bool → Res) : laws_eqTable a a k = k true := by
  have h1 : msr (.slice (.pair .str (.pair (.int .i64) (.pair .bool (.pair .bool (.pair (.int .i64) (.pair (.int .i64) .str))))))) a.2.1 ≤ 1048576 := by
    have : msr (.slice (.pair .str (.pair (.int .i64) (.pair .bool (.pair .bool (.pair (.int .i64) (.pair (.int .i64) .str))))))) a.2.1 ≤ msr (.pair .str (.pair (.slice (.pair .str (.pair (.int .i64) (.pair .bool (.pair .bool (.pair (.int .i64) (.pair (.int .i64) .str))))))) (.slice .str))) a := by first | exact Nat.le_refl _ | (simp only [msr]; omega)
    omega
  have h2 : msr (.slice .str) a.2.2 ≤ 1048576 := by
    have : msr (.slice .str) a.2.2 ≤ msr (.pair .str (.pair (.slice (.pair .str (.pair (.int .i64) (.pair .bool (.pair .bool (.pair (.int .i64) (.pair (.int .i64) .str))))))) (.slice .str))) a := by first | exact Nat.le_refl _ | (simp only [msr]; omega)
    omega
  unfold laws_eqTable
  simp only [bne_f, sNe_self, beq_self_eq_true, cond_false, Bool.not_true, eqColS_eq _ h1, eqStringS_eq _ h2]
end Go.PI.G
