/-
  Words, columns, tables, rows, stores, plainly. Lemmas; no conditions.
-/
import Derived.Test.YtcapkiofiipamaaK3
set_option linter.unusedVariables false
namespace Go.PI.G
open Go Go.PI

abbrev C := ByteArray × Int × Bool × Bool × V
abbrev T := ByteArray × List C × List ByteArray
abbrev DB := List T × List (List (List V))
abbrev yV : Ty := .pair (.int .i64) (.pair (.int .i64) .str)
abbrev yC : Ty := .pair .str (.pair (.int .i64) (.pair .bool (.pair .bool yV)))
abbrev yT : Ty := .pair .str (.pair (.slice yC) (.slice .str))
abbrev yDB : Ty := .pair (.slice yT) (.slice (.slice (.slice yV)))
abbrev zV : V := (0, 0, eS)
abbrev zC : C := (eS, 0, false, false, 0, 0, eS)
abbrev zT : T := (eS, [], [])

theorem idxI_range {α : Type} (p : α → Bool) (l : List α) : -1 ≤ idxI p l ∧ idxI p l < (l.length : Int) := by
  unfold idxI
  cases h : l.findIdx? p with
  | none => simp only []; omega
  | some i =>
    have := (List.findIdx?_eq_some_iff_findIdx_eq.1 h).1
    simp only []; omega
theorem anyI_congr {α : Type} {f g : Nat → α → Bool} : (l : List α) → (i : Nat) → (∀ (j : Nat) (h : j < l.length), f (i + j) l[j] = g (i + j) l[j]) → anyI f i l = anyI g i l
  | [], _, _ => rfl
  | x :: l, i, h => by
    simp only [anyI]
    have h0 : f i x = g i x := h 0 (by simp)
    have h1 := anyI_congr (f := f) (g := g) l (i + 1) fun j hj => by
      have := h (j + 1) (by simpa using hj)
      rw [show i + 1 + j = i + (j + 1) by omega]
      simpa using this
    rw [h0, h1]
theorem anyI_false {α : Type} {f : Nat → α → Bool} : (l : List α) → (i : Nat) → anyI f i l = false → ∀ (j : Nat) (h : j < l.length), f (i + j) l[j] = false
  | [], _, _, j, h => by simp at h
  | x :: l, i, h, j, hj => by
    simp only [anyI, Bool.or_eq_false_iff] at h
    cases j with
    | zero => simpa using h.1
    | succ j =>
      have := anyI_false l (i + 1) h.2 j (by simpa using hj)
      rw [show i + (j + 1) = i + 1 + j by omega]
      simpa using this
theorem anyI_eq_any {α : Type} (f : α → Bool) : (l : List α) → (i : Nat) → anyI (fun _ x => f x) i l = l.any f
  | [], _ => rfl
  | x :: l, i => by simp only [anyI, List.any_cons]; rw [anyI_eq_any f l]

/-! ### words, values -/
def wordB (s : ByteArray) : Bool := !((toBytes s).any fun b => decide (b < 97) || decide (b > 122)) && (decide (1 ≤ s.size) && decide (s.size ≤ 8))
def veq (a b : V) : Bool := (a.1 == b.1) && ((a.2.1 == b.2.1) && sEq a.2.2 b.2.2)
theorem veq_iff (a b : V) : veq a b = true ↔ a = b := by
  obtain ⟨a1, a2, a3⟩ := a
  obtain ⟨b1, b2, b3⟩ := b
  unfold veq
  simp only [Bool.and_eq_true, beq_iff_eq, sEq_iff, Prod.mk.injEq]
def vlt (a b : V) : Bool := valB a && (valB b && (bif a.1 != b.1 then decide (a.1 < b.1) else bif a.2.1 != b.2.1 then decide (a.2.1 < b.2.1) else sLt a.2.2 b.2.2))

/-! ### columns, tables -/
def nullB (v : V) : Bool := (v.1 == 0) && ((v.2.1 == 0) && sEq v.2.2 eS)
def colB (c : C) : Bool := wordB c.1 && (decide (1 ≤ c.2.1 ∧ c.2.1 ≤ 3) && (valB c.2.2.2.2 && (bif c.2.2.2.1 then (c.2.2.2.2.1 == c.2.1) || ((c.2.2.2.2.1 == 0) && !c.2.2.1) else nullB c.2.2.2.2)))
def colAt (l : List C) (n : ByteArray) : Int := idxI (fun c => sEq c.1 n) l
theorem colAt_range (l : List C) (n : ByteArray) : -1 ≤ colAt l n ∧ colAt l n < (l.length : Int) := idxI_range _ _
theorem valB_null : valB (0, 0, eS) = true := by
  show (((0 : Int) == 0) && sEq eS eS) = true
  rw [sEq_self]; rfl
theorem nullB_null : nullB (0, 0, eS) = true := by
  show (((0 : Int) == 0) && (((0 : Int) == 0) && sEq eS eS)) = true
  rw [sEq_self]; rfl
def keysUp (l : List C) : Int → List ByteArray → Bool
  | _, [] => true
  | last, k :: ks => !decide (colAt l k ≤ last) && ((nth zC l (colAt l k)).2.2.1 && keysUp l (colAt l k) ks)
def colsB (l : List C) : Bool := !anyI (fun i c => !colB c || (colAt l c.1 != (i : Int))) 0 l
def tabB (t : T) : Bool := (wordB t.1 && (decide (1 ≤ t.2.1.length) && (decide (t.2.1.length ≤ 8) && decide (1 ≤ t.2.2.length)))) && (colsB t.2.1 && keysUp t.2.1 (-1) t.2.2)
def tabAt (l : List T) (n : ByteArray) : Int := idxI (fun t => sEq t.1 n) l
def catB (c : List T) : Bool := decide (c.length ≤ 6) && !anyI (fun i t => !tabB t || (decide (0 < i) && sGe (nth zT c ((i : Int) - 1)).1 t.1)) 0 c

/-! ### rows, stores -/
def fits (c : C) (v : V) : Bool := valB v && ((v.1 == c.2.1) || ((v.1 == 0) && !c.2.2.1))
def rowB (l : List C) (r : List V) : Bool := decide (r.length = l.length) && !anyI (fun i c => !fits c (nth zV r (i : Int))) 0 l
def keyV (t : T) (r : List V) : List V := t.2.2.map fun k => nth zV r (colAt t.2.1 k)
def klt : List V → List V → Bool
  | [], [] => false
  | [], _ :: _ => true
  | _ :: _, [] => false
  | x :: xs, y :: ys => bif veq x y then klt xs ys else vlt x y
def rowsB (t : T) (l : List (List V)) : Bool := tabB t && (decide (l.length ≤ 60) && !anyI (fun i r => !rowB t.2.1 r || (decide (0 < i) && !klt (keyV t (nth [] l ((i : Int) - 1))) (keyV t r))) 0 l)
def dbB (d : DB) : Bool := catB d.1 && (decide (d.2.length = d.1.length) && !anyI (fun i t => !rowsB t (nth [] d.2 (i : Int))) 0 d.1)
def keysV (d : DB) (n : ByteArray) : List (List V) := bif dbB d && !decide (tabAt d.1 n < 0) then (nth [] d.2 (tabAt d.1 n)).map (keyV (nth zT d.1 (tabAt d.1 n))) else []

/-! ### what a right table has -/
theorem tabB_parts {t : T} (h : tabB t = true) : wordB t.1 = true ∧ 1 ≤ t.2.1.length ∧ t.2.1.length ≤ 8 ∧ 1 ≤ t.2.2.length ∧ colsB t.2.1 = true ∧ keysUp t.2.1 (-1) t.2.2 = true := by
  unfold tabB at h
  simp only [Bool.and_eq_true, decide_eq_true_eq] at h
  exact ⟨h.1.1, h.1.2.1, h.1.2.2.1, h.1.2.2.2, h.2.1, h.2.2⟩
theorem keysUp_range {l : List C} : (ks : List ByteArray) → (last : Int) → -1 ≤ last → keysUp l last ks = true → ∀ k ∈ ks, 0 ≤ colAt l k ∧ colAt l k < (l.length : Int)
  | [], _, _, _, k, hk => by cases hk
  | q :: ks, last, h0, h, k, hk => by
    simp only [keysUp, Bool.and_eq_true, Bool.not_eq_true', decide_eq_false_iff_not] at h
    have h1 := (idxI_range (fun c : C => sEq c.1 q) l).2
    have h2 : 0 ≤ colAt l q := by omega
    rcases List.mem_cons.1 hk with rfl | hk
    · exact ⟨h2, h1⟩
    · exact keysUp_range ks (colAt l q) (by omega) h.2.2 k hk
theorem colB_ty {c : C} (h : colB c = true) : 1 ≤ c.2.1 ∧ c.2.1 ≤ 3 := by
  unfold colB at h
  simp only [Bool.and_eq_true, decide_eq_true_eq] at h
  exact h.2.1
theorem colsB_get {l : List C} (h : colsB l = true) (i : Nat) (hi : i < l.length) : colB l[i] = true := by
  unfold colsB at h
  have := anyI_false l 0 (by simpa using h) i hi
  simp only [Bool.or_eq_false_iff, Bool.not_eq_false'] at this
  exact this.1
end Go.PI.G
