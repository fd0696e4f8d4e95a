/-
  Told: the plain law. No conditions.
-/
import Derived.Test.YtnijpcgdbjmokaaNA
set_option linter.unusedVariables false
namespace Go.PI.LA
open Go Go.PI Go.Proofs

theorem bt_nat (s : ByteArray) (i : Nat) : bt s (i : Int) = bt s i := rfl

theorem toStringS_eq (a : List ByteArray) (h : a.length ≤ LIM) (k : List ByteArray → Res) : laws_toStringS a k = k a := by
  unfold laws_toStringS
  rw [mkOk_of h, cond_true]
  have := to_loop eS a id (step := laws_toStringS_l0_s a) (fun out => k out) h (fun out i rec hi hl => by
    show laws_toStringS_l0_r a _ _ _ _ = _
    unfold laws_toStringS_l0_r
    rw [nI_lt hi, cond_true, inb_of (by omega) (by omega), cond_true, inb_of (by omega) (by rw [hl]; omega), cond_true, nth_nat _ _ _ hi, upd_nat, wi64_of (by unfold LIM at h; omega) (by unfold LIM at h; omega)]
    rfl) (fun out rec => by
    show laws_toStringS_l0_r a _ _ _ _ = _
    unfold laws_toStringS_l0_r
    rw [nI_ge, cond_false])
  rw [List.map_id] at this
  exact this
theorem toPub_eq (a : List ByteArray) (h : a.length ≤ LIM) (k : List ByteArray → Res) : laws_toPub a k = k a := by
  unfold laws_toPub; rw [toStringS_eq a h]

def bPub (a : List ByteArray) : Nat := a.length + (a.map ByteArray.size).sum
theorem szStringS_eq (a : List ByteArray) (left : Int) (h0 : 0 ≤ left) (h1 : left ≤ 1048576) (ha : a.length ≤ maxLen) (h2 : ∀ x ∈ a, x.size ≤ maxLen) (k : Int → Res) : laws_szStringS a left k = k (szR left (bPub a)) := by
  unfold laws_szStringS
  rw [wi64_of (by unfold nI maxLen at *; omega) (by unfold nI maxLen at *; omega)]
  unfold nI bPub
  by_cases h : (a.length : Int) ≤ left
  · rw [dec_lt_f (by omega), cond_false]
    unfold laws_szStringS_l0
    rw [sz_loop ByteArray.size a _ (by omega) (fun left i rec hi h0 h1 => ?_) (fun left rec => ?_) _ (by omega) (by omega)]
    · rw [szR_step h]
      by_cases hb : (((a.map ByteArray.size).sum : Nat) : Int) ≤ left - a.length
      · rw [if_pos hb, szR_pos hb]
      · rw [if_neg hb, szR_neg hb]
    · show laws_szStringS_l0_r a _ _ _ _ _ = _
      have hx : a[i].size ≤ maxLen := h2 _ (List.getElem_mem _)
      unfold maxLen at hx
      unfold laws_szStringS_l0_r
      rw [nI_lt hi, cond_true, inb_of (by omega) (by omega), cond_true, nth_nat _ _ _ hi, wi64_of (n := left - nI a[i].size) (by unfold nI; omega) (by unfold nI; omega), wi64_of (by omega) (by omega)]
      unfold nI
      by_cases hb : (a[i].size : Int) ≤ left
      · rw [if_pos hb, dec_lt_f (by omega), cond_false]
      · rw [if_neg hb, dec_lt_t (by omega), cond_true]
    · show laws_szStringS_l0_r a _ _ _ _ _ = _
      unfold laws_szStringS_l0_r
      rw [nI_ge, cond_false]
  · rw [dec_lt_t (by omega), cond_true, szR_stop h]
theorem szPub_eq (a : List ByteArray) (left : Int) (h0 : 0 ≤ left) (h1 : left ≤ 1048576) (ha : a.length ≤ maxLen) (h2 : ∀ x ∈ a, x.size ≤ maxLen) (k : Int → Res) : laws_szPub a left k = k (szR left (bPub a)) := by
  unfold laws_szPub
  rw [szStringS_eq a left h0 h1 ha h2]
  by_cases h : (bPub a : Int) ≤ left
  · rw [szR_pos h, dec_lt_f (by omega), cond_false]
  · rw [szR_neg h, dec_lt_t (by omega), cond_true]

theorem eqStringS_eq (a : List ByteArray) (h : a.length ≤ LIM) (k : Bool → Res) : laws_eqStringS a a k = k true := by
  unfold laws_eqStringS
  rw [bne_f, cond_false]
  unfold laws_eqStringS_l0
  rw [eq_loop a _ h (fun i rec hi => ?_) (fun rec => ?_)]
  · show laws_eqStringS_l0_r a a _ _ _ _ = _
    unfold laws_eqStringS_l0_r
    rw [nI_lt hi, cond_true, inb_of (by omega) (by omega), cond_true, cond_true, sNe_self, cond_false, wi64_of (by unfold LIM at h; omega) (by unfold LIM at h; omega)]
  · show laws_eqStringS_l0_r a a _ _ _ _ = _
    unfold laws_eqStringS_l0_r
    rw [nI_ge, cond_false]
theorem eqPub_eq (a : List ByteArray) (h : a.length ≤ LIM) (k : Bool → Res) : laws_eqPub a a k = k true := by
  unfold laws_eqPub; rw [eqStringS_eq a h]; rfl

/-! ### words -/
def wordBad (s : ByteArray) (i : Nat) : Bool := decide (bt s i < 97) || decide (bt s i > 122)
def wordB (s : ByteArray) : Bool := bif (List.range s.size).any (wordBad s) then false else (bif decide (nI s.size ≥ 1) then decide (nI s.size ≤ 8) else false)
theorem word_eq (s : ByteArray) (h : s.size ≤ LIM) (k : Bool → Res) : spec_WordOk s k = k (wordB s) := by
  unfold spec_WordOk spec_WordOk_l0
  have := scan_loop s.size (fun i => i) (wordBad s) (step := spec_WordOk_l0_s s) ((fun (_ : Unit) => bif decide ((nI (ByteArray.size s)) ≥ 1) then k (decide ((nI (ByteArray.size s)) ≤ 8)) else k false), (fun (_ : Unit) => k false))
    (bif decide ((nI (ByteArray.size s)) ≥ 1) then k (decide ((nI (ByteArray.size s)) ≤ 8)) else k false) (fun _ => k false) h (fun i rec hi => by
    show spec_WordOk_l0_r s _ _ _ _ = _
    unfold spec_WordOk_l0_r wordBad
    rw [nI_lt hi, cond_true, inb_of (by omega) (by omega), cond_true, wi64_of (by unfold LIM at h; omega) (by unfold LIM at h; omega)]
    cases decide (bt s (i : Int) < 97)
    · rw [cond_false, cond_true, Bool.false_or]
    · rfl) (fun rec => by
    show spec_WordOk_l0_r s _ _ _ _ = _
    unfold spec_WordOk_l0_r
    rw [nI_ge, cond_false])
  refine this.trans ?_
  rw [find_const]
  unfold wordB
  cases (List.range s.size).any (wordBad s)
  · rw [cond_false, cond_false]
    cases decide (nI s.size ≥ 1) <;> rfl
  · rfl

def pubBad (p : List ByteArray) (i : Nat) : Bool := !wordB (nth eS p i) || (decide ((i : Int) > 0) && sGe (nth eS p ((i : Int) - 1)) (nth eS p i))
def pubB (p : List ByteArray) : Bool := bif (List.range p.length).any (pubBad p) then false else decide (nI p.length ≤ 6)
theorem pub_eq (p : List ByteArray) (h : p.length ≤ LIM) (h2 : ∀ x ∈ p, x.size ≤ LIM) (k : Bool → Res) : spec_PubOk p k = k (pubB p) := by
  unfold spec_PubOk spec_PubOk_l0
  have := scan_loop p.length (fun i => i) (pubBad p) (step := spec_PubOk_l0_s (nI p.length) p) ((fun (_ : Unit) => k (decide ((nI (List.length p)) ≤ 6))), (fun (_ : Unit) => k false))
    (k (decide ((nI (List.length p)) ≤ 6))) (fun _ => k false) h (fun i rec hi => by
    show spec_PubOk_l0_r _ p _ _ _ _ = _
    unfold spec_PubOk_l0_r pubBad
    rw [nI_lt hi, cond_true, inb_of (by omega) (by omega), cond_true, word_eq _ (by rw [nth_nat _ _ _ hi]; exact h2 _ (List.getElem_mem _)), wi64_of (n := (i : Int) + 1) (by unfold LIM at h; omega) (by unfold LIM at h; omega)]
    cases wordB (nth eS p (i : Int))
    · rfl
    · dsimp only
      rw [Bool.not_true, cond_false, Bool.false_or]
      by_cases h0 : (i : Int) > 0
      · rw [decide_eq_true h0, cond_true, Bool.true_and, wi64_of (n := (i : Int) - 1) (by omega) (by unfold LIM at h; omega), inb_of (by omega) (by omega), cond_true]
      · rw [decide_eq_false h0]; rfl) (fun rec => by
    show spec_PubOk_l0_r _ p _ _ _ _ = _
    unfold spec_PubOk_l0_r
    rw [nI_ge, cond_false])
  refine this.trans ?_
  rw [find_const, find_bool]
  rfl
theorem implPub_eq (p : List ByteArray) (h : p.length ≤ LIM) (h2 : ∀ x ∈ p, x.size ≤ LIM) (k : Bool → Res) : impl_PubOk p k = k (pubB p) := pub_eq p h h2 k

def hasB (l : List ByteArray) (s : ByteArray) : Bool := (List.range l.length).any fun i => sEq (nth eS l i) s
theorem has_eq (l : List ByteArray) (s : ByteArray) (h : l.length ≤ LIM) (k : Bool → Res) : spec_l02Has l s k = k (hasB l s) := by
  unfold spec_l02Has spec_l02Has_l0
  have := scan_loop l.length (fun i => i) (fun i => sEq (nth eS l i) s) (step := spec_l02Has_l0_s s l (nI l.length)) ((fun (_ : Unit) => k false), (fun (_ : Unit) => k true)) (k false) (fun _ => k true) h (fun i rec hi => by
    show spec_l02Has_l0_r _ _ _ _ _ _ _ = _
    unfold spec_l02Has_l0_r
    rw [nI_lt hi, cond_true, inb_of (by omega) (by omega), cond_true, wi64_of (by unfold LIM at h; omega) (by unfold LIM at h; omega)]) (fun rec => by
    show spec_l02Has_l0_r _ _ _ _ _ _ _ = _
    unfold spec_l02Has_l0_r
    rw [nI_ge, cond_false])
  refine this.trans ?_
  rw [find_const, find_bool]
  unfold hasB
  cases (List.range l.length).any fun i => sEq (nth eS l i) s <;> rfl
theorem contains_eq (l : List ByteArray) (s : ByteArray) (h : l.length ≤ LIM) (k : Bool → Res) : slices_Contains_string l s k = k (hasB l s) := by
  unfold slices_Contains_string slices_Index_string slices_Index_string_l0
  have := scan_loop l.length (fun i => i) (fun i => sEq (nth eS l i) s) (step := slices_Index_string_l0_s l s (nI l.length)) ((fun (_ : Unit) => k (decide ((-1 : Int) ≥ 0))), (fun (t : Int) => k (decide (t ≥ 0)))) (k (decide ((-1 : Int) ≥ 0))) (fun i => k (decide ((i : Int) ≥ 0))) h (fun i rec hi => by
    show slices_Index_string_l0_r _ _ _ _ _ _ _ = _
    unfold slices_Index_string_l0_r
    rw [nI_lt hi, cond_true, inb_of (by omega) (by omega), cond_true, sEq_comm, wi64_of (by unfold LIM at h; omega) (by unfold LIM at h; omega)]) (fun rec => by
    show slices_Index_string_l0_r _ _ _ _ _ _ _ = _
    unfold slices_Index_string_l0_r
    rw [nI_ge, cond_false])
  refine this.trans ?_
  have hx : (fun i : Nat => k (decide ((i : Int) ≥ 0))) = fun _ => k true := by
    funext i; rw [decide_eq_true (by omega : (i : Int) ≥ 0)]
  have hy : ∀ o : Option Nat, (match o with | none => k (decide ((-1 : Int) ≥ 0)) | some i => k (decide ((i : Int) ≥ 0))) = (match o with | none => k false | some _ => k true) := by
    intro o
    cases o with
    | none => rfl
    | some i => exact congrFun hx i
  refine (hy _).trans ?_
  refine (find_const (bad := fun i => sEq (nth eS l i) s) (l := List.range l.length) (a := k false) (b := k true)).trans ?_
  rw [find_bool]
  unfold hasB
  cases (List.range l.length).any fun i => sEq (nth eS l i) s <;> rfl

theorem bPubLen {a : List ByteArray} {n : Nat} (h : bPub a ≤ n) : a.length ≤ n ∧ ∀ x ∈ a, x.size ≤ n := by
  unfold bPub at h
  exact ⟨by omega, fun x hx => by have := le_sum ByteArray.size a x hx; omega⟩

theorem told (a : List ByteArray) (t : ByteArray) (ha : a.length ≤ maxLen) (h2 : ∀ x ∈ a, x.size ≤ maxLen) (k : Bool → Res) : laws_FnExactTold a t k = k true := by
  unfold laws_FnExactTold
  by_cases ht : nI t.size > 1048576
  · rw [decide_eq_true ht, cond_true]
  · rw [decide_eq_false ht, cond_false, szPub_eq a 1048576 (by omega) (by omega) ha h2]
    by_cases h : (bPub a : Int) ≤ 1048576
    · rw [szR_pos h, dec_lt_f (by omega), cond_false]
      obtain ⟨hl, hl2⟩ := bPubLen (a := a) (n := LIM) (by unfold LIM; omega)
      have hS : ∀ K, spec_Told a t K = K (bif pubB a then hasB a t else false) := fun K => by
        unfold spec_Told
        rw [pub_eq a hl hl2]
        cases pubB a
        · rfl
        · rw [cond_true, has_eq a t hl, cond_true]
      have hI : ∀ K, impl_Told a t K = K (bif pubB a then hasB a t else false) := fun K => by
        unfold impl_Told
        rw [implPub_eq a hl hl2]
        cases pubB a
        · rfl
        · rw [cond_true, contains_eq a t hl, cond_true]
      rw [toPub_eq a hl, hS, toPub_eq a hl, hI, beq_self_eq_true, Bool.not_true, cond_false, toPub_eq a hl, eqPub_eq a hl, Bool.not_true, cond_false]
    · rw [szR_neg h, dec_lt_t (by omega), cond_true]

theorem row_FnExactTold (x0 : List ByteArray) (w0 : Wf y2 x0) (x1 : ByteArray) (w1 : Wf .str x1) (k : Bool → Res) : laws_FnExactTold x0 x1 k = k true := told x0 x1 w0.1 (fun x hx => w0.2 x hx) k
end Go.PI.LA
