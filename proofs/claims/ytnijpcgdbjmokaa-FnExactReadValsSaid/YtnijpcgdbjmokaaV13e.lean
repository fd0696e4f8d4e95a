/-
  Printed texts and plain laws. No conditions.
-/
import Derived.Test.YtnijpcgdbjmokaaV13d
import Derived.Test.YtnijpcgdbjmokaaV13c
set_option linter.unusedVariables false
namespace Go.PI.G
open Go Go.PI

abbrev C := ByteArray × Int × Bool × Bool × V
abbrev T := ByteArray × List C × List ByteArray
abbrev DB := List T × List (List (List V))
abbrev yV : Ty := .pair (.int .i64) (.pair (.int .i64) .str)
abbrev yC : Ty := .pair .str (.pair (.int .i64) (.pair .bool (.pair .bool yV)))
abbrev yT : Ty := .pair .str (.pair (.slice yC) (.slice .str))
abbrev yDB : Ty := .pair (.slice yT) (.slice (.slice (.slice yV)))
abbrev zV : V := (0, 0, eS)
abbrev zC : C := (eS, 0, false, false, 0, 0, eS)
abbrev zT : T := (eS, [], [])

theorem idxI_range {α : Type} (p : α → Bool) (l : List α) : -1 ≤ idxI p l ∧ idxI p l < (l.length : Int) := by
  unfold idxI
  cases h : l.findIdx? p with
  | none => simp only []; omega
  | some i =>
    have := (List.findIdx?_eq_some_iff_findIdx_eq.1 h).1
    simp only []; omega
theorem anyI_congr {α : Type} {f g : Nat → α → Bool} : (l : List α) → (i : Nat) → (∀ (j : Nat) (h : j < l.length), f (i + j) l[j] = g (i + j) l[j]) → anyI f i l = anyI g i l
  | [], _, _ => rfl
  | x :: l, i, h => by
    simp only [anyI]
    have h0 : f i x = g i x := h 0 (by simp)
    have h1 := anyI_congr (f := f) (g := g) l (i + 1) fun j hj => by
      have := h (j + 1) (by simpa using hj)
      rw [show i + 1 + j = i + (j + 1) by omega]
      simpa using this
    rw [h0, h1]
theorem anyI_false {α : Type} {f : Nat → α → Bool} : (l : List α) → (i : Nat) → anyI f i l = false → ∀ (j : Nat) (h : j < l.length), f (i + j) l[j] = false
  | [], _, _, j, h => by simp at h
  | x :: l, i, h, j, hj => by
    simp only [anyI, Bool.or_eq_false_iff] at h
    cases j with
    | zero => simpa using h.1
    | succ j =>
      have := anyI_false l (i + 1) h.2 j (by simpa using hj)
      rw [show i + (j + 1) = i + 1 + j by omega]
      simpa using this
theorem anyI_eq_any {α : Type} (f : α → Bool) : (l : List α) → (i : Nat) → anyI (fun _ x => f x) i l = l.any f
  | [], _ => rfl
  | x :: l, i => by simp only [anyI, List.any_cons]; rw [anyI_eq_any f l]

/-! ### words, values -/
def wordB (s : ByteArray) : Bool := !((toBytes s).any fun b => decide (b < 97) || decide (b > 122)) && (decide (1 ≤ s.size) && decide (s.size ≤ 8))
def veq (a b : V) : Bool := (a.1 == b.1) && ((a.2.1 == b.2.1) && sEq a.2.2 b.2.2)
theorem veq_iff (a b : V) : veq a b = true ↔ a = b := by
  obtain ⟨a1, a2, a3⟩ := a
  obtain ⟨b1, b2, b3⟩ := b
  unfold veq
  simp only [Bool.and_eq_true, beq_iff_eq, sEq_iff, Prod.mk.injEq]
def vlt (a b : V) : Bool := valB a && (valB b && (bif a.1 != b.1 then decide (a.1 < b.1) else bif a.2.1 != b.2.1 then decide (a.2.1 < b.2.1) else sLt a.2.2 b.2.2))

/-! ### columns, tables -/
def nullB (v : V) : Bool := (v.1 == 0) && ((v.2.1 == 0) && sEq v.2.2 eS)
def colB (c : C) : Bool := wordB c.1 && (decide (1 ≤ c.2.1 ∧ c.2.1 ≤ 3) && (valB c.2.2.2.2 && (bif c.2.2.2.1 then (c.2.2.2.2.1 == c.2.1) || ((c.2.2.2.2.1 == 0) && !c.2.2.1) else nullB c.2.2.2.2)))
def colAt (l : List C) (n : ByteArray) : Int := idxI (fun c => sEq c.1 n) l
theorem colAt_range (l : List C) (n : ByteArray) : -1 ≤ colAt l n ∧ colAt l n < (l.length : Int) := idxI_range _ _
theorem valB_null : valB (0, 0, eS) = true := by
  show (((0 : Int) == 0) && sEq eS eS) = true
  rw [sEq_self]; rfl
theorem nullB_null : nullB (0, 0, eS) = true := by
  show (((0 : Int) == 0) && (((0 : Int) == 0) && sEq eS eS)) = true
  rw [sEq_self]; rfl
def keysUp (l : List C) : Int → List ByteArray → Bool
  | _, [] => true
  | last, k :: ks => !decide (colAt l k ≤ last) && ((nth zC l (colAt l k)).2.2.1 && keysUp l (colAt l k) ks)
def colsB (l : List C) : Bool := !anyI (fun i c => !colB c || (colAt l c.1 != (i : Int))) 0 l
def tabB (t : T) : Bool := (wordB t.1 && (decide (1 ≤ t.2.1.length) && (decide (t.2.1.length ≤ 8) && decide (1 ≤ t.2.2.length)))) && (colsB t.2.1 && keysUp t.2.1 (-1) t.2.2)
def tabAt (l : List T) (n : ByteArray) : Int := idxI (fun t => sEq t.1 n) l
def catB (c : List T) : Bool := decide (c.length ≤ 6) && !anyI (fun i t => !tabB t || (decide (0 < i) && sGe (nth zT c ((i : Int) - 1)).1 t.1)) 0 c

/-! ### rows, stores -/
def fits (c : C) (v : V) : Bool := valB v && ((v.1 == c.2.1) || ((v.1 == 0) && !c.2.2.1))
def rowB (l : List C) (r : List V) : Bool := decide (r.length = l.length) && !anyI (fun i c => !fits c (nth zV r (i : Int))) 0 l
def keyV (t : T) (r : List V) : List V := t.2.2.map fun k => nth zV r (colAt t.2.1 k)
def klt : List V → List V → Bool
  | [], [] => false
  | [], _ :: _ => true
  | _ :: _, [] => false
  | x :: xs, y :: ys => bif veq x y then klt xs ys else vlt x y
def rowsB (t : T) (l : List (List V)) : Bool := tabB t && (decide (l.length ≤ 60) && !anyI (fun i r => !rowB t.2.1 r || (decide (0 < i) && !klt (keyV t (nth [] l ((i : Int) - 1))) (keyV t r))) 0 l)
def dbB (d : DB) : Bool := catB d.1 && (decide (d.2.length = d.1.length) && !anyI (fun i t => !rowsB t (nth [] d.2 (i : Int))) 0 d.1)
def keysV (d : DB) (n : ByteArray) : List (List V) := bif dbB d && !decide (tabAt d.1 n < 0) then (nth [] d.2 (tabAt d.1 n)).map (keyV (nth zT d.1 (tabAt d.1 n))) else []

/-! ### what a right table has -/
theorem tabB_parts {t : T} (h : tabB t = true) : wordB t.1 = true ∧ 1 ≤ t.2.1.length ∧ t.2.1.length ≤ 8 ∧ 1 ≤ t.2.2.length ∧ colsB t.2.1 = true ∧ keysUp t.2.1 (-1) t.2.2 = true := by
  unfold tabB at h
  simp only [Bool.and_eq_true, decide_eq_true_eq] at h
  exact ⟨h.1.1, h.1.2.1, h.1.2.2.1, h.1.2.2.2, h.2.1, h.2.2⟩
theorem keysUp_range {l : List C} : (ks : List ByteArray) → (last : Int) → -1 ≤ last → keysUp l last ks = true → ∀ k ∈ ks, 0 ≤ colAt l k ∧ colAt l k < (l.length : Int)
  | [], _, _, _, k, hk => by cases hk
  | q :: ks, last, h0, h, k, hk => by
    simp only [keysUp, Bool.and_eq_true, Bool.not_eq_true', decide_eq_false_iff_not] at h
    have h1 := (idxI_range (fun c : C => sEq c.1 q) l).2
    have h2 : 0 ≤ colAt l q := by omega
    rcases List.mem_cons.1 hk with rfl | hk
    · exact ⟨h2, h1⟩
    · exact keysUp_range ks (colAt l q) (by omega) h.2.2 k hk
theorem colB_ty {c : C} (h : colB c = true) : 1 ≤ c.2.1 ∧ c.2.1 ≤ 3 := by
  unfold colB at h
  simp only [Bool.and_eq_true, decide_eq_true_eq] at h
  exact h.2.1
theorem colsB_get {l : List C} (h : colsB l = true) (i : Nat) (hi : i < l.length) : colB l[i] = true := by
  unfold colsB at h
  have := anyI_false l 0 (by simpa using h) i hi
  simp only [Bool.or_eq_false_iff, Bool.not_eq_false'] at this
  exact this.1
end Go.PI.G
namespace Go.PI.G
open Go Go.PI Go.Proofs

theorem markText_loop (k : ByteArray → Res) : ∀ (m n d : Nat) (s : ByteArray), n < m → 0 < n → n ≤ 4294967296 → n < 10 ^ (d + 1) → s.size + d ≤ 1000 →
    iter laws_markText_l0_s m ((n : Int), s) k = k (digt n ++ s)
  | 0, n, d, s, h, _, _, _, _ => by omega
  | m + 1, n, d, s, h, hn, hb, hd, hs => by
    rw [iter_succ]
    show laws_markText_l0_r _ _ _ _ = _
    unfold laws_markText_l0_r
    have h9 : decide ((n : Int) > 0) = true := decide_eq_true (by omega)
    rw [h9, cond_true, tdiv_nat, tmod_nat, wi64_of (n := ((n / 10 : Nat) : Int)) (by omega) (by omega)]
    show (bif lim ((dgt ((n % 10 : Nat) : Int)).size + s.size) then iter laws_markText_l0_s m (((n / 10 : Nat) : Int), dgt ((n % 10 : Nat) : Int) ++ s) k else none) = _
    rw [dgt_size, lim_of (by unfold LIM; omega), cond_true]
    by_cases h1 : n < 10
    · have h10 : n / 10 = 0 := by omega
      have h11 : n % 10 = n := by omega
      rw [h10, h11, digt_lo h1]
      obtain ⟨m, rfl⟩ : ∃ e, m = e + 1 := ⟨m - 1, by omega⟩
      rw [iter_succ]
      show laws_markText_l0_r _ _ _ _ = _
      unfold laws_markText_l0_r
      have h0 : decide (((0 : Nat) : Int) > 0) = false := decide_eq_false (by omega)
      rw [h0, cond_false]
    · obtain ⟨d, rfl⟩ : ∃ e, d = e + 1 := by
        cases d with
        | zero => exact absurd (by simpa using hd) h1
        | succ d => exact ⟨d, rfl⟩
      rw [markText_loop k m (n / 10) d _ (by omega) (by omega) (by omega) (Nat.div_lt_of_lt_mul (by rw [Nat.pow_succ] at hd; omega)) (by rw [ByteArray.size_append, dgt_size]; omega), digt_hi h1, ByteArray.append_assoc]
theorem markText_eq (k : Int) (h : 1 ≤ k ∧ k ≤ 4294967296) (K : ByteArray → Res) : laws_markText k K = K (mT k) := by
  unfold laws_markText laws_markText_l0
  have h0 : decide (k ≤ 0) = false := decide_eq_false (by omega)
  have := markText_loop (fun (out : ByteArray) => bif lim (1 + (ByteArray.size out)) then K (z_m ++ out) else none) FUEL k.toNat 12 eS (FUEL_lt (by omega)) (by omega) (by omega) (by omega) (by show 0 + 12 ≤ 1000; omega)
  rw [show ((k.toNat : Nat) : Int) = k by omega, eS_app] at this
  rw [h0, cond_false]
  refine this.trans ?_
  have hs := digt_size 12 k.toNat (by omega)
  rw [lim_of (by unfold LIM; omega), cond_true]
  rfl
end Go.PI.G
set_option linter.unusedSimpArgs false
set_option maxRecDepth 10000
namespace Go.PI.G
open Go Go.PI Go.Proofs

theorem eqVal_eq (a : Int × Int × ByteArray) (h : msr (.pair (.int .i64) (.pair (.int .i64) .str)) a ≤ 1048576) (k : Bool → Res) : laws_eqVal a a k = k true := by
  unfold laws_eqVal
  simp only [bne_f, sNe_self, beq_self_eq_true, cond_false, Bool.not_true]
end Go.PI.G
namespace Go.PI.G
open Go Go.PI Go.Proofs

theorem eqValS_eq (a : qW) (h : msr (.slice (.pair (.int .i64) (.pair (.int .i64) .str))) a ≤ 1048576) (k : Bool → Res) : laws_eqValS a a k = k true := by
  have hl : a.length ≤ 1048576 := msr_len h
  unfold laws_eqValS
  rw [bne_f, cond_false]
  unfold laws_eqValS_l0
  rw [eq_loop a _ (by unfold LIM; omega) (fun i rec hi => ?_) (fun rec => ?_)]
  · show laws_eqValS_l0_r a a _ _ _ _ = _
    unfold laws_eqValS_l0_r
    simp only [nI_lt hi, cond_true, inb_nat hi, nth_nat _ _ _ hi, wi64_in (n := (i : Int) + 1) (by omega), bne_f, sNe_self, cond_false, Bool.not_true, eqVal_eq _ (msr_mem h (List.getElem_mem hi))]
  · show laws_eqValS_l0_r a a _ _ _ _ = _
    unfold laws_eqValS_l0_r
    rw [nI_ge, cond_false]

theorem markValS_eq (a : qW) (k : Int) (h : msr (.slice (.pair (.int .i64) (.pair (.int .i64) .str))) a ≤ 1048576) (h0 : 1 ≤ k) (hk : k + (wgt (.slice (.pair (.int .i64) (.pair (.int .i64) .str))) a : Int) ≤ 4294967296) (K : Int → qW → Res) : laws_markValS a k K = K (k + (wgt (.slice (.pair (.int .i64) (.pair (.int .i64) .str))) a : Int)) (mkL (wgt (.pair (.int .i64) (.pair (.int .i64) .str))) (mk (.pair (.int .i64) (.pair (.int .i64) .str))) a k) := by
  have hl : a.length ≤ 1048576 := msr_len h
  have hwg : wgt (.slice (.pair (.int .i64) (.pair (.int .i64) .str))) a = (a.map (wgt (.pair (.int .i64) (.pair (.int .i64) .str)))).sum := rfl
  rw [hwg] at hk ⊢
  unfold laws_markValS laws_markValS_l0
  have := mark_loop (wgt (.pair (.int .i64) (.pair (.int .i64) .str))) (mk (.pair (.int .i64) (.pair (.int .i64) .str))) a k (fun l k i => (l, k, i)) (step := laws_markValS_l0_s) (fun l k => K k l) (fun l k => K k l) (by unfold LIM; omega) (fun l i rec hi hll hli hla => by
    have e1 := sum_take (wgt (.pair (.int .i64) (.pair (.int .i64) .str))) a i hi
    have e2 := sum_take_le (wgt (.pair (.int .i64) (.pair (.int .i64) .str))) a (i + 1)
    generalize hκ : k + ((((a.take i).map (wgt (.pair (.int .i64) (.pair (.int .i64) .str)))).sum : Nat) : Int) = κ
    have hκ1 : 1 ≤ κ ∧ κ + (wgt (.pair (.int .i64) (.pair (.int .i64) .str)) a[i] : Int) ≤ 4294967296 := by omega
    have hw : (wgt (.pair (.int .i64) (.pair (.int .i64) .str)) a[i] : Int) = 1 + 1 + 1 := by
      have : wgt (.pair (.int .i64) (.pair (.int .i64) .str)) a[i] = 1 + 1 + 1 := by first | rfl | (simp only [wgt]; done) | (simp only [wgt]; omega)
      first | rfl | omega
    show laws_markValS_l0_r _ _ _ _ _ = _
    dsimp only
    unfold laws_markValS_l0_r
    rw [← hll] at hi
    have hi' : i < a.length := by omega
    simp (disch := first | assumption | omega) only [show nI a.length = nI l.length by rw [hll], nI_lt, inb_nat, upd_len, cond_true, nth_upd, upd_upd, nth_nat, hla, wi64_in, markText_eq, ← hll]
    rw [upd_nat]
    congr 3 <;> first | rfl | omega | skip) (fun l k rec hll => by
    show laws_markValS_l0_r _ _ _ _ _ = _
    dsimp only
    unfold laws_markValS_l0_r
    rw [← hll, nI_ge, cond_false])
  exact this

theorem heldValS_eq (a : qW) (k : Int) (h : msr (.slice (.pair (.int .i64) (.pair (.int .i64) .str))) a ≤ 1048576) (h0 : 1 ≤ k) (hk : k + (wgt (.slice (.pair (.int .i64) (.pair (.int .i64) .str))) a : Int) ≤ 4294967296) (K : Int → Res) : laws_heldValS (mkL (wgt (.pair (.int .i64) (.pair (.int .i64) .str))) (mk (.pair (.int .i64) (.pair (.int .i64) .str))) a k) k K = K (k + (wgt (.slice (.pair (.int .i64) (.pair (.int .i64) .str))) a : Int)) := by
  have hl : a.length ≤ 1048576 := msr_len h
  have hwg : wgt (.slice (.pair (.int .i64) (.pair (.int .i64) .str))) a = (a.map (wgt (.pair (.int .i64) (.pair (.int .i64) .str)))).sum := rfl
  rw [hwg] at hk ⊢
  have hll := mkL_len (wgt (.pair (.int .i64) (.pair (.int .i64) .str))) (mk (.pair (.int .i64) (.pair (.int .i64) .str))) a k
  have hg := mkL_get (wgt (.pair (.int .i64) (.pair (.int .i64) .str))) (mk (.pair (.int .i64) (.pair (.int .i64) .str))) a k
  generalize mkL (wgt (.pair (.int .i64) (.pair (.int .i64) .str))) (mk (.pair (.int .i64) (.pair (.int .i64) .str))) a k = l at hll hg
  unfold laws_heldValS laws_heldValS_l0
  have := held_loop (wgt (.pair (.int .i64) (.pair (.int .i64) .str))) a k (fun k i => (k, i)) (step := laws_heldValS_l0_s l) ((fun (k_1 : Int) => K k_1), (fun (_ : Unit) => K (-1))) (fun k => K k) (by unfold LIM; omega) (fun i rec hi => by
    have e1 := sum_take (wgt (.pair (.int .i64) (.pair (.int .i64) .str))) a i hi
    have e2 := sum_take_le (wgt (.pair (.int .i64) (.pair (.int .i64) .str))) a (i + 1)
    have hgi := hg i hi (by omega)
    generalize hκ : k + ((((a.take i).map (wgt (.pair (.int .i64) (.pair (.int .i64) .str)))).sum : Nat) : Int) = κ at hgi
    have hκ1 : 1 ≤ κ ∧ κ + (wgt (.pair (.int .i64) (.pair (.int .i64) .str)) a[i] : Int) ≤ 4294967296 := by omega
    have hw : (wgt (.pair (.int .i64) (.pair (.int .i64) .str)) a[i] : Int) = 1 + 1 + 1 := by
      have : wgt (.pair (.int .i64) (.pair (.int .i64) .str)) a[i] = 1 + 1 + 1 := by first | rfl | (simp only [wgt]; done) | (simp only [wgt]; omega)
      first | rfl | omega
    show laws_heldValS_l0_r _ _ _ _ _ _ = _
    dsimp only
    unfold laws_heldValS_l0_r
    have hi' : i < l.length := by omega
    simp (disch := first | assumption | omega) only [nI_lt, inb_nat, cond_true, cond_false, nth_nat, hgi, mk_pair, mk_slice, mk_i64, mk_u8, mk_bool, mk_str, wgt_pair, wgt_int, wgt_bool, wgt_str, Int.natCast_add, Int.natCast_one, ← Int.add_assoc, wi64_in, markText_eq, bne_f, sNe_self, beq_self_eq_true, Bool.not_true, dec_lt_f]
    all_goals (congr 2; omega)) (fun k rec => by
    show laws_heldValS_l0_r _ _ _ _ _ _ = _
    dsimp only
    unfold laws_heldValS_l0_r
    rw [← hll, nI_ge, cond_false])
  exact this
end Go.PI.G
namespace Go.PI.G
open Go Go.PI Go.Proofs

theorem toByteS_eq (a : (List Int)) (h : msr (.slice (.int .u8)) a ≤ 1048576) (k : (List Int) → Res) : laws_toByteS a k = k a := by
  have hl : a.length ≤ 1048576 := msr_len h
  unfold laws_toByteS
  rw [mkOk_of (by unfold LIM; omega), cond_true]
  have := to_loop (0) a id (step := laws_toByteS_l0_s a) (fun out => k out) (by unfold LIM; omega) (fun out i rec hi hlo => by
    show laws_toByteS_l0_r a _ _ _ _ = _
    unfold laws_toByteS_l0_r
    dsimp only
    simp only [nI_lt hi, cond_true, inb_nat hi, inb_nat (show i < out.length by omega), nth_nat _ _ _ hi, upd_nat, wi64_in (n := (i : Int) + 1) (by omega)]
    rfl) (fun out rec => by
    show laws_toByteS_l0_r a _ _ _ _ = _
    unfold laws_toByteS_l0_r
    dsimp only
    rw [nI_ge, cond_false])
  rw [List.map_id] at this
  exact this

theorem eqByteS_eq (a : (List Int)) (h : msr (.slice (.int .u8)) a ≤ 1048576) (k : Bool → Res) : laws_eqByteS a a k = k true := by
  have hl : a.length ≤ 1048576 := msr_len h
  unfold laws_eqByteS
  rw [bne_f, cond_false]
  unfold laws_eqByteS_l0
  rw [eq_loop a _ (by unfold LIM; omega) (fun i rec hi => ?_) (fun rec => ?_)]
  · show laws_eqByteS_l0_r a a _ _ _ _ = _
    unfold laws_eqByteS_l0_r
    simp only [nI_lt hi, cond_true, inb_nat hi, nth_nat _ _ _ hi, wi64_in (n := (i : Int) + 1) (by omega), bne_f, sNe_self, cond_false, Bool.not_true]
  · show laws_eqByteS_l0_r a a _ _ _ _ = _
    unfold laws_eqByteS_l0_r
    rw [nI_ge, cond_false]

theorem markByteS_eq (a : (List Int)) (k : Int) (h : msr (.slice (.int .u8)) a ≤ 1048576) (h0 : 1 ≤ k) (hk : k + (wgt (.slice (.int .u8)) a : Int) ≤ 4294967296) (K : Int → (List Int) → Res) : laws_markByteS a k K = K (k + (wgt (.slice (.int .u8)) a : Int)) (mkL (wgt (.int .u8)) (mk (.int .u8)) a k) := by
  have hl : a.length ≤ 1048576 := msr_len h
  have hwg : wgt (.slice (.int .u8)) a = (a.map (wgt (.int .u8))).sum := rfl
  rw [hwg] at hk ⊢
  unfold laws_markByteS laws_markByteS_l0
  have := mark_loop (wgt (.int .u8)) (mk (.int .u8)) a k (fun l k i => (l, k, i)) (step := laws_markByteS_l0_s) (fun l k => K k l) (fun l k => K k l) (by unfold LIM; omega) (fun l i rec hi hll hli hla => by
    have e1 := sum_take (wgt (.int .u8)) a i hi
    have e2 := sum_take_le (wgt (.int .u8)) a (i + 1)
    generalize hκ : k + ((((a.take i).map (wgt (.int .u8))).sum : Nat) : Int) = κ
    have hκ1 : 1 ≤ κ ∧ κ + (wgt (.int .u8) a[i] : Int) ≤ 4294967296 := by omega
    have hw : (wgt (.int .u8) a[i] : Int) = 1 := by
      have : wgt (.int .u8) a[i] = 1 := by first | rfl | (simp only [wgt]; done) | (simp only [wgt]; omega)
      first | rfl | omega
    show laws_markByteS_l0_r _ _ _ _ _ = _
    dsimp only
    unfold laws_markByteS_l0_r
    rw [← hll] at hi
    have hi' : i < a.length := by omega
    simp (disch := first | assumption | omega) only [show nI a.length = nI l.length by rw [hll], nI_lt, inb_nat, upd_len, cond_true, nth_upd, upd_upd, nth_nat, hla, wi64_in, markText_eq, ← hll]
    rw [upd_nat]
    congr 3 <;> first | rfl | omega | skip) (fun l k rec hll => by
    show laws_markByteS_l0_r _ _ _ _ _ = _
    dsimp only
    unfold laws_markByteS_l0_r
    rw [← hll, nI_ge, cond_false])
  exact this
end Go.PI.G
namespace Go.PI.G
open Go Go.PI Go.Proofs

noncomputable def rvV (b : List Int) : List V × Bool := by
  classical
  exact if h : ∃ l, okRow l = true ∧ rowW l = b then (h.choose, true) else ([], false)
theorem okRow_parts {l : List V} (h : okRow l = true) : l.length ≤ 8 ∧ ∀ v ∈ l, valB v = true := by
  unfold okRow at h
  rw [Bool.and_eq_true, decide_eq_true_eq, List.all_eq_true] at h
  exact h
theorem rowW_ok {l : List V} (h : okRow l = true) : isB (rowW l) := rowW_isB (by have := (okRow_parts h).1; omega) (okRow_parts h).2
theorem specRV (b : List Int) (hb : isB b) (hl : b.length ≤ 1048576) (k : List V → Bool → Res) : spec_ReadVals b k = k (rvV b).1 (rvV b).2 := by
  obtain ⟨r, a, q1, q2, q3⟩ := sVals b hb hl
  have hu : spec_ReadVals b k = bif okRow r then (bif sNe (ofBytes (rowW r)) (ofBytes b) then k [] false else k r true) else k [] false := by
    unfold spec_ReadVals
    refine (q2 _).trans ?_
    rw [specRB_eq r q1]
    cases okRow r <;> rfl
  rw [hu]
  unfold rvV
  by_cases h : ∃ l, okRow l = true ∧ rowW l = b
  · rw [dif_pos h]
    have hc := h.choose_spec
    have hp := okRow_parts hc.1
    have hr := q3 h.choose hp.1 hp.2 hc.2.symm
    rw [hr, hc.1, cond_true, hc.2, sNe_self, cond_false]
  · rw [dif_neg h]
    cases ho : okRow r
    · rfl
    · rw [cond_true]
      cases hs : sNe (ofBytes (rowW r)) (ofBytes b)
      · exact absurd ⟨r, ho, ofBytes_inj (rowW_ok ho) hb ((sNe_iff _ _).1 hs)⟩ h
      · rfl
theorem implRV (b : List Int) (hb : isB b) (hl : b.length ≤ 1048576) (k : List V → Bool → Res) : impl_ReadVals b k = k (rvV b).1 (rvV b).2 := by
  obtain ⟨r, a, bad, q1, q2, q3⟩ := iVals b hb hl
  have hu : impl_ReadVals b k = bif okRow r then (bif bad then k [] false else bif sNe (ofBytes (rowW r)) (ofBytes b) then k [] false else k r true) else k [] false := by
    unfold impl_ReadVals
    refine (q2 _).trans ?_
    rw [implRB_eq r q1]
    cases okRow r
    · cases bad <;> rfl
    · cases bad <;> rfl
  rw [hu]
  unfold rvV
  by_cases h : ∃ l, okRow l = true ∧ rowW l = b
  · rw [dif_pos h]
    have hc := h.choose_spec
    have hp := okRow_parts hc.1
    obtain ⟨hr, hbad⟩ := q3 h.choose hp.1 hp.2 hc.2.symm
    rw [hr, hc.1, cond_true, hbad, cond_false, hc.2, sNe_self, cond_false]
  · rw [dif_neg h]
    cases ho : okRow r
    · rfl
    · rw [cond_true]
      cases bad
      · rw [cond_false]
        cases hs : sNe (ofBytes (rowW r)) (ofBytes b)
        · exact absurd ⟨r, ho, ofBytes_inj (rowW_ok ho) hb ((sNe_iff _ _).1 hs)⟩ h
        · rfl
      · rfl
theorem rvV_msr (b : List Int) : msr (.slice yV) (rvV b).1 ≤ 1048576 := by
  unfold rvV
  by_cases h : ∃ l, okRow l = true ∧ rowW l = b
  · rw [dif_pos h]
    have hp := okRow_parts h.choose_spec.1
    show msr (.slice yV) h.choose ≤ 1048576
    generalize h.choose = l at hp
    have h1 : msr (.slice yV) l = l.length + (l.map (msr yV)).sum := rfl
    have h2 : ∀ (l : List V), (∀ v ∈ l, valB v = true) → (l.map (msr yV)).sum ≤ l.length * 30 := by
      intro l
      induction l with
      | nil => intro _; simp
      | cons x l ih =>
        intro hx
        have e1 := valB_size (hx x (by simp))
        have e0 : msr yV x = 0 + (0 + x.2.2.size) := rfl
        have e2 := ih fun y hy => hx y (List.mem_cons_of_mem _ hy)
        simp only [List.map_cons, List.sum_cons, List.length_cons]
        omega
    have := h2 l hp.2
    have := hp.1
    omega
  · rw [dif_neg h]
    exact Nat.zero_le _
theorem msr_bytes (l : List Int) : msr (.slice (.int .u8)) l = l.length := by
  have h1 : msr (.slice (.int .u8)) l = l.length + (l.map (msr (.int .u8))).sum := rfl
  have h2 : ∀ l : List Int, (l.map (msr (.int .u8))).sum = 0 := by
    intro l
    induction l with
    | nil => rfl
    | cons x l ih =>
      simp only [List.map_cons, List.sum_cons]
      rw [ih]; rfl
  rw [h1, h2]; rfl
theorem wf_isB {l : List Int} (h : Wf (.slice (.int .u8)) l) : isB l := fun x hx => by
  have := h.2 x hx
  have h2 : IntKind.u8.min = 0 := by decide
  have h3 : IntKind.u8.max = 255 := by decide
  simp only [Wf, Lit.wf, h2, h3, Bool.and_eq_true, decide_eq_true_eq] at this
  omega
theorem row_FnExactReadVals (x0 : List Int) (w0 : Wf (.slice (.int .u8)) x0) (k : Bool → Res) : laws_FnExactReadVals x0 k = k true := by
  have hb := wf_isB w0
  unfold laws_FnExactReadVals
  by_cases hs : nI x0.length > 1048576
  · rw [decide_eq_true hs]; rfl
  have hl : x0.length ≤ 1048576 := by unfold nI at hs; omega
  have hm : msr (.slice (.int .u8)) x0 ≤ 1048576 := by rw [msr_bytes]; exact hl
  rw [decide_eq_false hs, cond_false, toByteS_eq x0 hm, specRV x0 hb hl, toByteS_eq x0 hm, implRV x0 hb hl]
  have hq := rvV_msr x0
  generalize hr : rvV x0 = r at hq
  obtain ⟨l, ok⟩ := r
  have hbb : ∀ x : Bool, (x == x) = true := by decide
  dsimp only at hq ⊢
  have e0 := wgt_small (τ := .slice (.int .u8)) (by decide) hm
  have e3 := wgt_small (τ := .slice yV) (by decide) hq
  have k0 : (1 : Int) + ((wgt (.slice (.int .u8)) x0 : Nat) : Int) ≤ 4294967296 := by omega
  have k3 : (1 : Int) + ((wgt (.slice yV) l : Nat) : Int) ≤ 4294967296 := by omega
  rw [eqValS_eq _ hq, Bool.not_true, cond_false, hbb, Bool.not_true, cond_false, toByteS_eq x0 hm, eqByteS_eq x0 hm, Bool.not_true, cond_false, markByteS_eq x0 1 hm (by omega) k0, decide_eq_false (by omega), cond_false, eqValS_eq _ hq, Bool.not_true, cond_false, cond_false]
  unfold laws_FnExactReadVals_p0
  rw [markValS_eq _ 1 hq (by omega) k3, heldValS_eq _ 1 hq (by omega) k3, decide_eq_false (by omega), cond_false, bne_f, cond_false, toByteS_eq x0 hm, implRV x0 hb hl, hr]
  dsimp only
  rw [eqValS_eq _ hq, Bool.not_true, cond_false, hbb, Bool.not_true, cond_false, heldValS_eq _ 1 hq (by omega) k3, decide_eq_false (by omega), cond_false, bne_f, cond_false]
end Go.PI.G
