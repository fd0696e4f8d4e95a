/-
  Texts of rows, sums: what the program and the reference say. Lemmas; no conditions.
-/
import Derived.Test.YtcapkiofiipamaaGTL17
import Derived.Test.YtcapkiofiipamaaGTN01b
set_option linter.unusedVariables false
set_option linter.unusedSimpArgs false
namespace Go.PI.G
open Go Go.PI Go.Proofs

/-! ### rows -/
def valsT (l : List V) : List ByteArray := foldN (fun i out => out ++ [valT (nth (0, 0, eS) l (i : Int))]) 0 l.length []
def pT (i : Nat) (out : List ByteArray) : Prop := out.length ≤ i ∧ ∀ x ∈ out, x.size ≤ 100
theorem pT_step (l : List V) (i : Nat) (out : List ByteArray) (h : pT i out) : pT (i + 1) (out ++ [valT (nth (0, 0, eS) l (i : Int))]) := by
  refine ⟨by simp; exact h.1, fun x hx => ?_⟩
  rcases List.mem_append.1 hx with hx | hx
  · exact h.2 x hx
  · simp only [List.mem_cons, List.not_mem_nil, or_false] at hx
    subst hx; exact valT_size _
theorem specVals_eq (l : List V) (h : l.length ≤ LIM) (k : List ByteArray → Res) : spec_l05Vals l k = k (valsT l) ∧ pT l.length (valsT l) := by
  unfold spec_l05Vals spec_l05Vals_l0 valsT
  exact fold_loop l.length (fun i out => (out, i)) _ pT (step := spec_l05Vals_l0_s l (nI l.length)) (fun out => k out) k [] h ⟨by simp, by simp⟩ (fun i out hi ho => pT_step l i out ho) (fun i out rec hi ho => by
    show spec_l05Vals_l0_r _ _ _ _ _ _ = _
    dsimp only
    unfold spec_l05Vals_l0_r
    unfold LIM at h
    have := ho.1
    rw [nI_lt hi, cond_true, inb_of (by omega) (by omega), cond_true, specT_eq, lim_of (by unfold LIM; omega), cond_true, wi64_of (by omega) (by omega)]) (fun out rec ho => by
    show spec_l05Vals_l0_r _ _ _ _ _ _ = _
    dsimp only
    unfold spec_l05Vals_l0_r
    rw [nI_ge, cond_false])

def joinF (l : List ByteArray) (i : Nat) (out : ByteArray) : ByteArray := bif decide ((i : Int) > 0) then (out ++ z___1) ++ nth eS l (i : Int) else out ++ nth eS l (i : Int)
def joinT (l : List ByteArray) : ByteArray := foldN (joinF l) 0 l.length eS
def pJ (i : Nat) (out : ByteArray) : Prop := out.size ≤ 101 * i
theorem nth_sz (l : List ByteArray) (hl : ∀ x ∈ l, x.size ≤ 100) (i : Nat) (hi : i < l.length) : (nth eS l (i : Int)).size ≤ 100 := by
  rw [nth_nat _ _ _ hi]; exact hl _ (List.getElem_mem _)
theorem pJ_step (l : List ByteArray) (hl : ∀ x ∈ l, x.size ≤ 100) (i : Nat) (out : ByteArray) (hi : i < l.length) (h : pJ i out) : pJ (i + 1) (joinF l i out) := by
  have := nth_sz l hl i hi
  have h1 : z___1.size = 1 := rfl
  unfold pJ joinF at *
  cases decide ((i : Int) > 0)
  · rw [cond_false, ByteArray.size_append]; omega
  · rw [cond_true, ByteArray.size_append, ByteArray.size_append]; omega
theorem specJoin_eq (l : List ByteArray) (h : l.length ≤ 1048576) (hl : ∀ x ∈ l, x.size ≤ 100) (k : ByteArray → Res) : spec_l05Join l k = k (joinT l) ∧ pJ l.length (joinT l) := by
  unfold spec_l05Join spec_l05Join_l0 joinT
  exact fold_loop l.length (fun i out => (out, i)) _ pJ (step := spec_l05Join_l0_s l (nI l.length)) (fun out => k out) k eS (by unfold LIM; omega) (Nat.zero_le _) (fun i out hi ho => pJ_step l hl i out hi ho) (fun i out rec hi ho => by
    show spec_l05Join_l0_r _ _ _ _ _ _ = _
    dsimp only
    unfold spec_l05Join_l0_r joinF
    have := nth_sz l hl i hi
    have h1 : z___1.size = 1 := rfl
    unfold pJ at ho
    rw [nI_lt hi, cond_true, inb_of (by omega) (by omega), cond_true, wi64_of (by omega) (by omega)]
    cases decide ((i : Int) > 0)
    · rw [cond_false, cond_false, lim_of (by unfold LIM; omega), cond_true]
    · rw [cond_true, cond_true, lim_of (by unfold LIM; omega), cond_true, lim_of (by rw [ByteArray.size_append]; unfold LIM; omega), cond_true]) (fun out rec ho => by
    show spec_l05Join_l0_r _ _ _ _ _ _ = _
    dsimp only
    unfold spec_l05Join_l0_r
    rw [nI_ge, cond_false])
theorem implJoin_eq (l : List ByteArray) (h : l.length ≤ 1048576) (hl : ∀ x ∈ l, x.size ≤ 100) (k : ByteArray → Res) : impl_glued l k = k (joinT l) := (specJoin_eq l h hl k).1
theorem implVals_eq (l : List V) (h : l.length ≤ 1048576) (k : ByteArray → Res) : impl_valTexts l k = k (joinT (valsT l)) := by
  obtain ⟨_, hp⟩ := specVals_eq l (by unfold LIM; omega) (fun _ => none)
  unfold impl_valTexts impl_valTexts_l0
  have := (fold_loop l.length (fun i out => (out, i)) _ pT (step := impl_valTexts_l0_s l (nI l.length)) (fun out => impl_glued out fun (r : ByteArray) => k r) (fun out => impl_glued out fun (r : ByteArray) => k r) [] (by unfold LIM; omega) ⟨by simp, by simp⟩ (fun i out hi ho => pT_step l i out ho) (fun i out rec hi ho => by
    show impl_valTexts_l0_r _ _ _ _ _ _ = _
    dsimp only
    unfold impl_valTexts_l0_r
    have := ho.1
    rw [nI_lt hi, cond_true, inb_of (by omega) (by omega), cond_true, implT_eq, lim_of (by unfold LIM; omega), cond_true, wi64_of (by omega) (by omega)]) (fun out rec ho => by
    show impl_valTexts_l0_r _ _ _ _ _ _ = _
    dsimp only
    unfold impl_valTexts_l0_r
    rw [nI_ge, cond_false])).1
  refine this.trans ?_
  exact implJoin_eq (valsT l) (by have := hp.1; omega) hp.2 k

def rowBad (l : List V) : Bool := (List.range l.length).any fun i => !valB (nth (0, 0, eS) l (i : Int))
def rowT (l : List V) : ByteArray := bif rowBad l then eS else joinT (valsT l)
theorem specRowT_eq (l : List V) (h : l.length ≤ 1048576) (k : ByteArray → Res) : spec_RowText l k = k (rowT l) := by
  obtain ⟨e1, hp⟩ := specVals_eq l (by unfold LIM; omega) (fun (r1 : List ByteArray) => spec_l05Join r1 fun (r2 : ByteArray) => k r2)
  unfold spec_RowText spec_RowText_l0
  have := scan_loop l.length (fun i => i) (fun i => !valB (nth (0, 0, eS) l (i : Int))) (step := spec_RowText_l0_s l (nI l.length)) ((fun (_ : Unit) => spec_l05Vals l fun (r1 : List ByteArray) => spec_l05Join r1 fun (r2 : ByteArray) => k r2), (fun (_ : Unit) => k eS))
    (spec_l05Vals l fun (r1 : List ByteArray) => spec_l05Join r1 fun (r2 : ByteArray) => k r2) (fun _ => k eS) (by unfold LIM; omega) (fun i rec hi => by
    show spec_RowText_l0_r _ _ _ _ _ _ = _
    unfold spec_RowText_l0_r
    rw [nI_lt hi, cond_true, inb_of (by omega) (by omega), cond_true, specVal_eq, wi64_of (by omega) (by omega)]) (fun rec => by
    show spec_RowText_l0_r _ _ _ _ _ _ = _
    unfold spec_RowText_l0_r
    rw [nI_ge, cond_false])
  refine this.trans ?_
  rw [find_const, e1, (specJoin_eq (valsT l) (by have := hp.1; omega) hp.2 k).1]
  unfold rowT rowBad
  cases (List.range l.length).any fun i => !valB (nth (0, 0, eS) l (i : Int)) <;> rfl
theorem implRowT_eq (l : List V) (h : l.length ≤ 1048576) (k : ByteArray → Res) : impl_RowText l k = k (rowT l) := by
  unfold impl_RowText impl_RowText_l0
  have := scan_loop l.length (fun i => i) (fun i => !valB (nth (0, 0, eS) l (i : Int))) (step := impl_RowText_l0_s l (nI l.length)) ((fun (_ : Unit) => impl_valTexts l fun (r1 : ByteArray) => k r1), (fun (_ : Unit) => k eS))
    (impl_valTexts l fun (r1 : ByteArray) => k r1) (fun _ => k eS) (by unfold LIM; omega) (fun i rec hi => by
    show impl_RowText_l0_r _ _ _ _ _ _ = _
    unfold impl_RowText_l0_r
    rw [nI_lt hi, cond_true, inb_of (by omega) (by omega), cond_true, implVal_eq, wi64_of (by omega) (by omega)]) (fun rec => by
    show impl_RowText_l0_r _ _ _ _ _ _ = _
    unfold impl_RowText_l0_r
    rw [nI_ge, cond_false])
  refine this.trans ?_
  rw [find_const, implVals_eq l h]
  unfold rowT rowBad
  cases (List.range l.length).any fun i => !valB (nth (0, 0, eS) l (i : Int)) <;> rfl
theorem rowT_size (l : List V) (h : l.length ≤ 1048576) : (rowT l).size ≤ LIM := by
  obtain ⟨_, hp⟩ := specVals_eq l (by unfold LIM; omega) (fun _ => none)
  have hj := (specJoin_eq (valsT l) (by have := hp.1; omega) hp.2 (fun _ => none)).2
  have := hp.1
  unfold pJ at hj
  unfold rowT LIM
  cases rowBad l
  · rw [cond_false]; omega
  · show (0 : Nat) ≤ 2147483648; omega

def sumF (b : List Int) (i : Nat) (n : Int) : Int := Int.tmod (wi64 ((wi64 ((wi64 (257 * n)) + (wi64 (nth 0 b (i : Int))))) + 1)) 16777213
def sumT (b : List Int) : Int := foldN (sumF b) 0 b.length 1
theorem specSum_eq (b : List Int) (h : b.length ≤ LIM) (k : Int → Res) : spec_Sum b k = k (sumT b) := by
  unfold spec_Sum spec_Sum_l0 sumT
  exact (fold_loop b.length (fun i n => (n, i)) (sumF b) (fun _ _ => True) (step := spec_Sum_l0_s b (nI b.length)) (fun n => k n) k 1 h trivial (fun _ _ _ _ => trivial) (fun i n rec hi ho => by
    show spec_Sum_l0_r _ _ _ _ _ _ = _
    dsimp only
    unfold spec_Sum_l0_r sumF
    unfold LIM at h
    rw [nI_lt hi, cond_true, inb_of (by omega) (by omega), cond_true, wi64_of (n := (i : Int) + 1) (by omega) (by omega)]) (fun n rec ho => by
    show spec_Sum_l0_r _ _ _ _ _ _ = _
    dsimp only
    unfold spec_Sum_l0_r
    rw [nI_ge, cond_false])).1
theorem implSum_eq (b : List Int) (h : b.length ≤ LIM) (k : Int → Res) : impl_Sum b k = k (sumT b) := specSum_eq b h k
theorem specRowSum_eq (l : List V) (h : l.length ≤ 1048576) (k : Int → Res) : spec_RowSum l k = k (sumT (toBytes (rowT l))) := by
  unfold spec_RowSum
  have := rowT_size l h
  rw [specRowT_eq l h, lim_of this, cond_true, specSum_eq _ (by rw [toBytes_len]; exact this)]
theorem implRowSum_eq (l : List V) (h : l.length ≤ 1048576) (k : Int → Res) : impl_RowSum l k = k (sumT (toBytes (rowT l))) := by
  unfold impl_RowSum
  have := rowT_size l h
  rw [implRowT_eq l h, lim_of this, cond_true, implSum_eq _ (by rw [toBytes_len]; exact this)]

end Go.PI.G
