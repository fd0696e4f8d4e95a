/-
  RowSum: the plain law, on. No conditions.
-/
import Derived.Test.YtnijpcgdbjmokaaNV
set_option linter.unusedVariables false
namespace Go.PI.L12
open Go Go.PI Go.Proofs

/-! ### texts of values -/
def pB (b : Int) : Bool := bif decide (33 ≤ b ∧ b ≤ 126) then (bif (b != 39) then (b != 37) else false) else false
theorem specP_eq (b : Int) (k : Bool → Res) : spec_ValText_p0 b k = k (pB b) := by
  unfold spec_ValText_p0 pB
  by_cases h : 33 ≤ b
  · rw [decide_eq_true (show b ≥ 33 from h), cond_true]
    have : decide (b ≤ 126) = decide (33 ≤ b ∧ b ≤ 126) := decide_eq_decide.2 (by omega)
    rw [this]
    cases decide (33 ≤ b ∧ b ≤ 126)
    · rfl
    · cases b != 39 <;> rfl
  · rw [decide_eq_false (show ¬ b ≥ 33 from h), decide_eq_false (show ¬ (33 ≤ b ∧ b ≤ 126) by omega)]
    rfl
theorem implP_eq (b : Int) (h : 0 ≤ b ∧ b < 256) (k : Bool → Res) : impl_ValText_p0 b k = k (pB b) := by
  unfold impl_ValText_p0 pB
  rw [wi64_of (by omega) (by omega), within_eq]
  cases decide (33 ≤ b ∧ b ≤ 126)
  · rfl
  · cases b != 39 <;> rfl

def h1 (b : Int) : Int := bt z_0123456789abcdef (Int.tmod (wi64 (Int.tdiv (wi64 b) 16)) 16)
def h2 (b : Int) : Int := bt z_0123456789abcdef (Int.tmod (Int.tmod (wi64 b) 16) 16)
theorem hexes : ∀ b : Fin 256, (inb (shrI .u8 ((b.val : Nat) : Int) 4) 16 && inb (andI .u8 ((b.val : Nat) : Int) 15) 16 && (bt z_0123456789abcdef (shrI .u8 ((b.val : Nat) : Int) 4) == h1 ((b.val : Nat) : Int)) && (bt z_0123456789abcdef (andI .u8 ((b.val : Nat) : Int) 15) == h2 ((b.val : Nat) : Int)) &&
    inb (Int.tmod (wi64 (Int.tdiv (wi64 ((b.val : Nat) : Int)) 16)) 16) 16 && inb (Int.tmod (Int.tmod (wi64 ((b.val : Nat) : Int)) 16) 16) 16) = true := by decide +kernel
theorem hex_of {b : Int} (h : 0 ≤ b ∧ b < 256) : inb (shrI .u8 b 4) 16 = true ∧ inb (andI .u8 b 15) 16 = true ∧ bt z_0123456789abcdef (shrI .u8 b 4) = h1 b ∧ bt z_0123456789abcdef (andI .u8 b 15) = h2 b ∧
    inb (Int.tmod (wi64 (Int.tdiv (wi64 b) 16)) 16) 16 = true ∧ inb (Int.tmod (Int.tmod (wi64 b) 16) 16) 16 = true := by
  have := hexes ⟨b.toNat, by omega⟩
  simp only [Bool.and_eq_true, beq_iff_eq] at this
  rw [show ((b.toNat : Nat) : Int) = b by omega] at this
  obtain ⟨⟨⟨⟨⟨a1, a2⟩, a3⟩, a4⟩, a5⟩, a6⟩ := this
  exact ⟨a1, a2, a3, a4, a5, a6⟩
theorem bt_rng (s : ByteArray) (i : Int) : 0 ≤ bt s i ∧ bt s i < 256 := by
  unfold bt
  have := UInt8.toNat_lt (s.data.toList.getD i.toNat 0)
  omega

def gB (b : Int) : List Int := bif pB b then [b] else [37, h1 b, h2 b]
theorem gB_len (b : Int) : (gB b).length ≤ 3 := by unfold gB; cases pB b <;> simp
def outT (s : ByteArray) : List Int := foldN (fun i out => out ++ gB (bt s (i : Int))) 0 s.size [39]

theorem specText_loop (v : V) (h : v.2.2.size ≤ LIM / 4) (K : List Int → Res) : spec_ValText_l1 v FUEL [39] 0 K = K (outT v.2.2) ∧ (outT v.2.2).length ≤ 1 + 3 * v.2.2.size := by
  unfold spec_ValText_l1 outT
  unfold LIM at h
  exact fold_loop v.2.2.size (fun i out => (out, i)) (fun i out => out ++ gB (bt v.2.2 (i : Int))) (fun i out => out.length ≤ 1 + 3 * i) (step := spec_ValText_l1_s v) K K [39] (by unfold LIM; omega) (by simp) (fun i out hi ho => by
    have := gB_len (bt v.2.2 (i : Int)); simp only [List.length_append]; omega) (fun i out rec hi ho => by
    show spec_ValText_l1_r v _ _ _ _ = _
    dsimp only
    unfold spec_ValText_l1_r spec_l01Hex
    obtain ⟨a1, a2, a3, a4, a5, a6⟩ := hex_of (bt_rng v.2.2 (i : Int))
    rw [nI_lt hi, cond_true, inb_of (by omega) (by omega), cond_true, specP_eq, wi64_of (n := (i : Int) + 1) (by omega) (by omega)]
    unfold gB
    cases pB (bt v.2.2 (i : Int))
    · dsimp only
      rw [cond_false, a5, cond_true, a6, cond_true, lim_of (by unfold LIM; omega), cond_true, cond_false]
      rfl
    · dsimp only
      rw [cond_true, lim_of (by unfold LIM; omega), cond_true, cond_true]) (fun out rec ho => by
    show spec_ValText_l1_r v _ _ _ _ = _
    dsimp only
    unfold spec_ValText_l1_r
    rw [nI_ge, cond_false])
theorem implText_loop (v : V) (h : v.2.2.size ≤ LIM / 4) (K : List Int → Res) : impl_ValText_l1 v FUEL [39] 0 K = K (outT v.2.2) := by
  unfold impl_ValText_l1 outT
  unfold LIM at h
  exact (fold_loop v.2.2.size (fun i out => (out, i)) (fun i out => out ++ gB (bt v.2.2 (i : Int))) (fun i out => out.length ≤ 1 + 3 * i) (step := impl_ValText_l1_s v) K K [39] (by unfold LIM; omega) (by simp) (fun i out hi ho => by
    have := gB_len (bt v.2.2 (i : Int)); simp only [List.length_append]; omega) (fun i out rec hi ho => by
    show impl_ValText_l1_r v _ _ _ _ = _
    dsimp only
    unfold impl_ValText_l1_r
    obtain ⟨a1, a2, a3, a4, a5, a6⟩ := hex_of (bt_rng v.2.2 (i : Int))
    rw [nI_lt hi, cond_true, inb_of (by omega) (by omega), cond_true, implP_eq _ (bt_rng _ _), wi64_of (n := (i : Int) + 1) (by omega) (by omega)]
    unfold gB
    cases pB (bt v.2.2 (i : Int))
    · dsimp only
      rw [cond_false, a1, cond_true, a2, cond_true, lim_of (by unfold LIM; omega), cond_true, cond_false, a3, a4]
    · dsimp only
      rw [cond_true, lim_of (by unfold LIM; omega), cond_true, cond_true]) (fun out rec ho => by
    show impl_ValText_l1_r v _ _ _ _ = _
    dsimp only
    unfold impl_ValText_l1_r
    rw [nI_ge, cond_false])).1

def valT (v : V) : ByteArray := bif valB v then (bif v.1 == 0 then z_null else bif v.1 == 1 then (bif v.2.1 == 1 then z_true else z_false) else bif v.1 == 2 then numT v.2.1 else ofBytes (outT v.2.2 ++ [39])) else eS
theorem valB_small {v : V} (hb : valB v = true) (h0 : (v.1 == 0) = false) (h1 : (v.1 == 1) = false) (h2 : (v.1 == 2) = false) : v.2.2.size ≤ 30 := by
  unfold valB at hb
  rw [h0, h1, h2, cond_false, cond_false, cond_false] at hb
  cases h3 : v.1 == 3
  · rw [h3, cond_false] at hb; cases hb
  · rw [h3, cond_true, Bool.and_eq_true, decide_eq_true_eq] at hb
    have := hb.2
    unfold nI at this
    omega
theorem ofBytes_size (l : List Int) : (ofBytes l).size = l.length := by
  show ((l.map fun n => UInt8.ofNat n.toNat).toArray).size = _
  simp
theorem valT_size (v : V) : (valT v).size ≤ 100 := by
  unfold valT
  cases hb : valB v
  · show (0 : Nat) ≤ 100; omega
  · rw [cond_true]
    cases h0 : v.1 == 0
    · cases h1 : v.1 == 1
      · cases h2 : v.1 == 2
        · rw [cond_false, cond_false, cond_false, ofBytes_size]
          have hs := valB_small hb h0 h1 h2
          have := (specText_loop v (by unfold LIM; omega) (fun _ => none)).2
          simp only [List.length_append, List.length_cons, List.length_nil]
          omega
        · rw [cond_false, cond_false, cond_true]
          have := numT_size v.2.1
          omega
      · rw [cond_false, cond_true]
        cases v.2.1 == 1
        · show (5 : Nat) ≤ 100; omega
        · show (4 : Nat) ≤ 100; omega
    · show (4 : Nat) ≤ 100; omega
theorem specT_eq (v : V) (k : ByteArray → Res) : spec_ValText v k = k (valT v) := by
  unfold spec_ValText valT
  rw [specVal_eq]
  cases hb : valB v
  · rfl
  · rw [Bool.not_true, cond_false, cond_true]
    cases h0 : v.1 == 0
    · cases h1 : v.1 == 1
      · cases h2 : v.1 == 2
        · have hs := valB_small hb h0 h1 h2
          obtain ⟨e1, e2⟩ := specText_loop v (by unfold LIM; omega) (fun (out : List Int) => bif lim ((List.length out) + 1) then k (ofBytes (out ++ [39])) else none)
          rw [cond_false, cond_false, cond_false, e1, lim_of (by unfold LIM; omega), cond_true, cond_false, cond_false, cond_false]
        · rw [cond_false, cond_false, cond_true, specNum_eq, cond_false, cond_false, cond_true]
      · unfold spec_l01Bool
        cases v.2.1 == 1 <;> rfl
    · rfl
theorem implT_eq (v : V) (k : ByteArray → Res) : impl_ValText v k = k (valT v) := by
  unfold impl_ValText valT
  rw [implVal_eq]
  cases hb : valB v
  · rfl
  · rw [Bool.not_true, cond_false, cond_true]
    cases h0 : v.1 == 0
    · cases h1 : v.1 == 1
      · cases h2 : v.1 == 2
        · have hs := valB_small hb h0 h1 h2
          have e1 := implText_loop v (by unfold LIM; omega) (fun (out : List Int) => bif lim ((List.length out) + 1) then k (ofBytes (out ++ [39])) else none)
          have e2 := (specText_loop v (by unfold LIM; omega) (fun _ => none)).2
          rw [cond_false, cond_false, cond_false, e1, lim_of (by unfold LIM; omega), cond_true, cond_false, cond_false, cond_false]
        · rw [cond_false, cond_false, cond_true, implNum_eq, cond_false, cond_false, cond_true]
      · unfold impl_boolText
        cases v.2.1 == 1 <;> rfl
    · rfl

/-! ### rows -/
def valsT (l : List V) : List ByteArray := foldN (fun i out => out ++ [valT (nth (0, 0, eS) l (i : Int))]) 0 l.length []
def pT (i : Nat) (out : List ByteArray) : Prop := out.length ≤ i ∧ ∀ x ∈ out, x.size ≤ 100
theorem pT_step (l : List V) (i : Nat) (out : List ByteArray) (h : pT i out) : pT (i + 1) (out ++ [valT (nth (0, 0, eS) l (i : Int))]) := by
  refine ⟨by simp; exact h.1, fun x hx => ?_⟩
  rcases List.mem_append.1 hx with hx | hx
  · exact h.2 x hx
  · simp only [List.mem_cons, List.not_mem_nil, or_false] at hx
    subst hx; exact valT_size _
theorem specVals_eq (l : List V) (h : l.length ≤ LIM) (k : List ByteArray → Res) : spec_l05Vals l k = k (valsT l) ∧ pT l.length (valsT l) := by
  unfold spec_l05Vals spec_l05Vals_l0 valsT
  exact fold_loop l.length (fun i out => (out, i)) _ pT (step := spec_l05Vals_l0_s l (nI l.length)) (fun out => k out) k [] h ⟨by simp, by simp⟩ (fun i out hi ho => pT_step l i out ho) (fun i out rec hi ho => by
    show spec_l05Vals_l0_r _ _ _ _ _ _ = _
    dsimp only
    unfold spec_l05Vals_l0_r
    unfold LIM at h
    have := ho.1
    rw [nI_lt hi, cond_true, inb_of (by omega) (by omega), cond_true, specT_eq, lim_of (by unfold LIM; omega), cond_true, wi64_of (by omega) (by omega)]) (fun out rec ho => by
    show spec_l05Vals_l0_r _ _ _ _ _ _ = _
    dsimp only
    unfold spec_l05Vals_l0_r
    rw [nI_ge, cond_false])

def joinF (l : List ByteArray) (i : Nat) (out : ByteArray) : ByteArray := bif decide ((i : Int) > 0) then (out ++ z___1) ++ nth eS l (i : Int) else out ++ nth eS l (i : Int)
def joinT (l : List ByteArray) : ByteArray := foldN (joinF l) 0 l.length eS
def pJ (i : Nat) (out : ByteArray) : Prop := out.size ≤ 101 * i
theorem nth_sz (l : List ByteArray) (hl : ∀ x ∈ l, x.size ≤ 100) (i : Nat) (hi : i < l.length) : (nth eS l (i : Int)).size ≤ 100 := by
  rw [nth_nat _ _ _ hi]; exact hl _ (List.getElem_mem _)
theorem pJ_step (l : List ByteArray) (hl : ∀ x ∈ l, x.size ≤ 100) (i : Nat) (out : ByteArray) (hi : i < l.length) (h : pJ i out) : pJ (i + 1) (joinF l i out) := by
  have := nth_sz l hl i hi
  have h1 : z___1.size = 1 := rfl
  unfold pJ joinF at *
  cases decide ((i : Int) > 0)
  · rw [cond_false, ByteArray.size_append]; omega
  · rw [cond_true, ByteArray.size_append, ByteArray.size_append]; omega
theorem specJoin_eq (l : List ByteArray) (h : l.length ≤ 1048576) (hl : ∀ x ∈ l, x.size ≤ 100) (k : ByteArray → Res) : spec_l05Join l k = k (joinT l) ∧ pJ l.length (joinT l) := by
  unfold spec_l05Join spec_l05Join_l0 joinT
  exact fold_loop l.length (fun i out => (out, i)) _ pJ (step := spec_l05Join_l0_s l (nI l.length)) (fun out => k out) k eS (by unfold LIM; omega) (Nat.zero_le _) (fun i out hi ho => pJ_step l hl i out hi ho) (fun i out rec hi ho => by
    show spec_l05Join_l0_r _ _ _ _ _ _ = _
    dsimp only
    unfold spec_l05Join_l0_r joinF
    have := nth_sz l hl i hi
    have h1 : z___1.size = 1 := rfl
    unfold pJ at ho
    rw [nI_lt hi, cond_true, inb_of (by omega) (by omega), cond_true, wi64_of (by omega) (by omega)]
    cases decide ((i : Int) > 0)
    · rw [cond_false, cond_false, lim_of (by unfold LIM; omega), cond_true]
    · rw [cond_true, cond_true, lim_of (by unfold LIM; omega), cond_true, lim_of (by rw [ByteArray.size_append]; unfold LIM; omega), cond_true]) (fun out rec ho => by
    show spec_l05Join_l0_r _ _ _ _ _ _ = _
    dsimp only
    unfold spec_l05Join_l0_r
    rw [nI_ge, cond_false])
theorem implJoin_eq (l : List ByteArray) (h : l.length ≤ 1048576) (hl : ∀ x ∈ l, x.size ≤ 100) (k : ByteArray → Res) : impl_glued l k = k (joinT l) := (specJoin_eq l h hl k).1
theorem implVals_eq (l : List V) (h : l.length ≤ 1048576) (k : ByteArray → Res) : impl_valTexts l k = k (joinT (valsT l)) := by
  obtain ⟨_, hp⟩ := specVals_eq l (by unfold LIM; omega) (fun _ => none)
  unfold impl_valTexts impl_valTexts_l0
  have := (fold_loop l.length (fun i out => (out, i)) _ pT (step := impl_valTexts_l0_s l (nI l.length)) (fun out => impl_glued out fun (r : ByteArray) => k r) (fun out => impl_glued out fun (r : ByteArray) => k r) [] (by unfold LIM; omega) ⟨by simp, by simp⟩ (fun i out hi ho => pT_step l i out ho) (fun i out rec hi ho => by
    show impl_valTexts_l0_r _ _ _ _ _ _ = _
    dsimp only
    unfold impl_valTexts_l0_r
    have := ho.1
    rw [nI_lt hi, cond_true, inb_of (by omega) (by omega), cond_true, implT_eq, lim_of (by unfold LIM; omega), cond_true, wi64_of (by omega) (by omega)]) (fun out rec ho => by
    show impl_valTexts_l0_r _ _ _ _ _ _ = _
    dsimp only
    unfold impl_valTexts_l0_r
    rw [nI_ge, cond_false])).1
  refine this.trans ?_
  exact implJoin_eq (valsT l) (by have := hp.1; omega) hp.2 k

def rowB (l : List V) : Bool := (List.range l.length).any fun i => !valB (nth (0, 0, eS) l (i : Int))
def rowT (l : List V) : ByteArray := bif rowB l then eS else joinT (valsT l)
theorem specRow_eq (l : List V) (h : l.length ≤ 1048576) (k : ByteArray → Res) : spec_RowText l k = k (rowT l) := by
  obtain ⟨e1, hp⟩ := specVals_eq l (by unfold LIM; omega) (fun (r1 : List ByteArray) => spec_l05Join r1 fun (r2 : ByteArray) => k r2)
  unfold spec_RowText spec_RowText_l0
  have := scan_loop l.length (fun i => i) (fun i => !valB (nth (0, 0, eS) l (i : Int))) (step := spec_RowText_l0_s (nI l.length) l) ((fun (_ : Unit) => spec_l05Vals l fun (r1 : List ByteArray) => spec_l05Join r1 fun (r2 : ByteArray) => k r2), (fun (_ : Unit) => k eS))
    (spec_l05Vals l fun (r1 : List ByteArray) => spec_l05Join r1 fun (r2 : ByteArray) => k r2) (fun _ => k eS) (by unfold LIM; omega) (fun i rec hi => by
    show spec_RowText_l0_r _ _ _ _ _ _ = _
    unfold spec_RowText_l0_r
    rw [nI_lt hi, cond_true, inb_of (by omega) (by omega), cond_true, specVal_eq, wi64_of (by omega) (by omega)]) (fun rec => by
    show spec_RowText_l0_r _ _ _ _ _ _ = _
    unfold spec_RowText_l0_r
    rw [nI_ge, cond_false])
  refine this.trans ?_
  rw [find_const, e1, (specJoin_eq (valsT l) (by have := hp.1; omega) hp.2 k).1]
  unfold rowT rowB
  cases (List.range l.length).any fun i => !valB (nth (0, 0, eS) l (i : Int)) <;> rfl
theorem implRow_eq (l : List V) (h : l.length ≤ 1048576) (k : ByteArray → Res) : impl_RowText l k = k (rowT l) := by
  unfold impl_RowText impl_RowText_l0
  have := scan_loop l.length (fun i => i) (fun i => !valB (nth (0, 0, eS) l (i : Int))) (step := impl_RowText_l0_s (nI l.length) l) ((fun (_ : Unit) => impl_valTexts l fun (r1 : ByteArray) => k r1), (fun (_ : Unit) => k eS))
    (impl_valTexts l fun (r1 : ByteArray) => k r1) (fun _ => k eS) (by unfold LIM; omega) (fun i rec hi => by
    show impl_RowText_l0_r _ _ _ _ _ _ = _
    unfold impl_RowText_l0_r
    rw [nI_lt hi, cond_true, inb_of (by omega) (by omega), cond_true, implVal_eq, wi64_of (by omega) (by omega)]) (fun rec => by
    show impl_RowText_l0_r _ _ _ _ _ _ = _
    unfold impl_RowText_l0_r
    rw [nI_ge, cond_false])
  refine this.trans ?_
  rw [find_const, implVals_eq l h]
  unfold rowT rowB
  cases (List.range l.length).any fun i => !valB (nth (0, 0, eS) l (i : Int)) <;> rfl
theorem rowT_size (l : List V) (h : l.length ≤ 1048576) : (rowT l).size ≤ LIM := by
  obtain ⟨_, hp⟩ := specVals_eq l (by unfold LIM; omega) (fun _ => none)
  have hj := (specJoin_eq (valsT l) (by have := hp.1; omega) hp.2 (fun _ => none)).2
  have := hp.1
  unfold pJ at hj
  unfold rowT LIM
  cases rowB l
  · rw [cond_false]; omega
  · show (0 : Nat) ≤ 2147483648; omega

def sumF (b : List Int) (i : Nat) (n : Int) : Int := Int.tmod (wi64 ((wi64 ((wi64 (257 * n)) + (wi64 (nth 0 b (i : Int))))) + 1)) 16777213
def sumT (b : List Int) : Int := foldN (sumF b) 0 b.length 1
theorem specSum_eq (b : List Int) (h : b.length ≤ LIM) (k : Int → Res) : spec_Sum b k = k (sumT b) := by
  unfold spec_Sum spec_Sum_l0 sumT
  exact (fold_loop b.length (fun i n => (n, i)) (sumF b) (fun _ _ => True) (step := spec_Sum_l0_s b (nI b.length)) (fun n => k n) k 1 h trivial (fun _ _ _ _ => trivial) (fun i n rec hi ho => by
    show spec_Sum_l0_r _ _ _ _ _ _ = _
    dsimp only
    unfold spec_Sum_l0_r sumF
    unfold LIM at h
    rw [nI_lt hi, cond_true, inb_of (by omega) (by omega), cond_true, wi64_of (n := (i : Int) + 1) (by omega) (by omega)]) (fun n rec ho => by
    show spec_Sum_l0_r _ _ _ _ _ _ = _
    dsimp only
    unfold spec_Sum_l0_r
    rw [nI_ge, cond_false])).1
theorem implSum_eq (b : List Int) (h : b.length ≤ LIM) (k : Int → Res) : impl_Sum b k = k (sumT b) := specSum_eq b h k
theorem toBytes_len (s : ByteArray) : (toBytes s).length = s.size := by unfold toBytes; simp
theorem specRowSum_eq (l : List V) (h : l.length ≤ 1048576) (k : Int → Res) : spec_RowSum l k = k (sumT (toBytes (rowT l))) := by
  unfold spec_RowSum
  have := rowT_size l h
  rw [specRow_eq l h, lim_of this, cond_true, specSum_eq _ (by rw [toBytes_len]; exact this)]
theorem implRowSum_eq (l : List V) (h : l.length ≤ 1048576) (k : Int → Res) : impl_RowSum l k = k (sumT (toBytes (rowT l))) := by
  unfold impl_RowSum
  have := rowT_size l h
  rw [implRow_eq l h, lim_of this, cond_true, implSum_eq _ (by rw [toBytes_len]; exact this)]

/-! ### the law -/
def bRow (a : List V) : Nat := a.length + (a.map fun v => v.2.2.size).sum
theorem szRow_eq (a : List V) (left : Int) (h0 : 0 ≤ left) (h1 : left ≤ 1048576) (ha : a.length ≤ maxLen) (hh : ∀ x ∈ a, x.2.2.size ≤ maxLen) (k : Int → Res) : laws_szRow a left k = k (szR left (bRow a)) := by
  unfold laws_szRow laws_szValS
  rw [wi64_of (by unfold nI maxLen at *; omega) (by unfold nI maxLen at *; omega)]
  unfold nI bRow
  by_cases h : (a.length : Int) ≤ left
  · rw [dec_lt_f (by omega), cond_false]
    unfold laws_szValS_l0
    rw [sz_loop (fun v : V => v.2.2.size) a _ (by omega) (fun left i rec hi h0 h1 => ?_) (fun left rec => ?_) _ (by omega) (by omega)]
    · rw [szR_step h]
      by_cases hb : (((a.map fun v => v.2.2.size).sum : Nat) : Int) ≤ left - a.length
      · rw [if_pos hb, szR_pos hb]
        dsimp only
        rw [dec_lt_f (by omega), cond_false]
      · rw [if_neg hb, szR_neg hb]; rfl
    · show laws_szValS_l0_r a _ _ _ _ _ = _
      have hx : a[i].2.2.size ≤ maxLen := hh _ (List.getElem_mem _)
      unfold maxLen at hx
      unfold laws_szValS_l0_r laws_szVal
      rw [nI_lt hi, cond_true, inb_of (by omega) (by omega), cond_true, nth_nat _ _ _ hi, wi64_of (n := left - nI a[i].2.2.size) (by unfold nI; omega) (by unfold nI; omega), wi64_of (by omega) (by omega)]
      unfold nI
      by_cases hb : (a[i].2.2.size : Int) ≤ left
      · rw [if_pos hb, dec_lt_f (by omega), cond_false]
        dsimp only
        rw [dec_lt_f (by omega), cond_false]
      · rw [if_neg hb, dec_lt_t (by omega), cond_true]; rfl
    · show laws_szValS_l0_r a _ _ _ _ _ = _
      unfold laws_szValS_l0_r
      rw [nI_ge, cond_false]
  · rw [dec_lt_t (by omega), cond_true, szR_stop h]; rfl
theorem toRow_eq (a : List V) (h : a.length ≤ LIM) (k : List V → Res) : laws_toRow a k = k a := by
  unfold laws_toRow laws_toValS
  rw [mkOk_of h, cond_true]
  have := to_loop ((0, 0, eS) : V) a id (step := laws_toValS_l0_s a) (fun out => k out) h (fun out i rec hi hl => by
    show laws_toValS_l0_r a _ _ _ _ = _
    unfold laws_toValS_l0_r laws_toVal
    rw [nI_lt hi, cond_true, inb_of (by omega) (by omega), cond_true, nth_nat _ _ _ hi, inb_of (by omega) (by rw [hl]; omega)]
    dsimp only
    rw [cond_true, upd_nat, wi64_of (by unfold LIM at h; omega) (by unfold LIM at h; omega)]
    rfl) (fun out rec => by
    show laws_toValS_l0_r a _ _ _ _ = _
    unfold laws_toValS_l0_r
    rw [nI_ge, cond_false])
  rw [List.map_id] at this
  exact this
theorem eqRow_eq (a : List V) (h : a.length ≤ LIM) (k : Bool → Res) : laws_eqRow a a k = k true := by
  unfold laws_eqRow laws_eqValS
  rw [bne_f, cond_false]
  unfold laws_eqValS_l0
  rw [eq_loop a _ h (fun i rec hi => ?_) (fun rec => ?_)]
  · rfl
  · show laws_eqValS_l0_r a a _ _ _ _ = _
    unfold laws_eqValS_l0_r laws_eqVal
    rw [nI_lt hi, cond_true, inb_of (by omega) (by omega), cond_true, cond_true, bne_f, cond_false, bne_f, cond_false, sNe_self, cond_false, wi64_of (by unfold LIM at h; omega) (by unfold LIM at h; omega)]
    rfl
  · show laws_eqValS_l0_r a a _ _ _ _ = _
    unfold laws_eqValS_l0_r
    rw [nI_ge, cond_false]
theorem row_FnExactRowSum (a : List V) (w0 : Wf y4 a) (k : Bool → Res) : laws_FnExactRowSum a k = k true := by
  unfold laws_FnExactRowSum
  rw [szRow_eq a 1048576 (by omega) (by omega) w0.1 (fun x hx => (w0.2 x hx).2.2)]
  by_cases h : (bRow a : Int) ≤ 1048576
  · rw [szR_pos h, dec_lt_f (by omega), cond_false]
    have hl : a.length ≤ 1048576 := by unfold bRow at h; omega
    have hl2 : a.length ≤ LIM := by unfold LIM; omega
    rw [toRow_eq a hl2, specRowSum_eq a hl, toRow_eq a hl2, implRowSum_eq a hl, bne_f, cond_false, toRow_eq a hl2, eqRow_eq a hl2, Bool.not_true, cond_false]
  · rw [szR_neg h, dec_lt_t (by omega), cond_true]
end Go.PI.L12
