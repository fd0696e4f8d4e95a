/-
  Values, plainly: which are right, their bytes. Lemmas; no conditions.
-/
import Derived.Test.YtcapkiofiipamaaPc
set_option linter.unusedVariables false
namespace Go.PI.G
open Go Go.PI

abbrev V := Int × Int × ByteArray
theorem wu8_of (n : Int) : wu8 n = n % 256 := by
  unfold wu8 IntKind.wrap
  simp [IntKind.bits, IntKind.signed]
theorem wu8_small {n : Int} (h : 0 ≤ n ∧ n < 256) : wu8 n = n := by rw [wu8_of]; omega
theorem toBytes_len (s : ByteArray) : (toBytes s).length = s.size := by unfold toBytes; simp
theorem ofBytes_size (l : List Int) : (ofBytes l).size = l.length := by
  show ((l.map fun n => UInt8.ofNat n.toNat).toArray).size = _
  simp
/-- A row of bytes. -/
def isB (l : List Int) : Prop := ∀ x ∈ l, 0 ≤ x ∧ x < 256
theorem toBytes_isB (s : ByteArray) : isB (toBytes s) := by
  intro x hx
  unfold toBytes at hx
  obtain ⟨b, _, rfl⟩ := List.mem_map.1 hx
  have := UInt8.toNat_lt b
  omega
theorem ofBytes_toBytes (s : ByteArray) : ofBytes (toBytes s) = s := by
  unfold ofBytes toBytes
  rw [List.map_map]
  have : (fun b : UInt8 => b) = (fun n : Int => UInt8.ofNat n.toNat) ∘ fun b : UInt8 => (b.toNat : Int) := by
    funext b; simp
  rw [← this]
  simp
theorem toBytes_ofBytes {l : List Int} (h : isB l) : toBytes (ofBytes l) = l := by
  unfold ofBytes toBytes
  simp only [List.map_map]
  have : l.map ((fun b : UInt8 => (b.toNat : Int)) ∘ fun n : Int => UInt8.ofNat n.toNat) = l.map id := by
    refine List.map_congr_left fun x hx => ?_
    have := h x hx
    simp only [Function.comp, id]
    rw [UInt8.toNat_ofNat']
    omega
  rw [this, List.map_id]
theorem sEq_iff (a b : ByteArray) : sEq a b = true ↔ a = b := by
  unfold sEq
  rw [beq_iff_eq]
  constructor
  · intro h
    rw [ByteArray.ext_iff]
    have h1 : a.toList = a.data.toList := by rw [ByteArray.toList_eq]
    have h2 : b.toList = b.data.toList := by rw [ByteArray.toList_eq]
    rw [h1, h2] at h
    exact Array.toList_inj.1 h
  · rintro rfl; rfl
theorem sNe_iff (a b : ByteArray) : sNe a b = false ↔ a = b := by
  unfold sNe
  rw [Bool.not_eq_false']
  exact sEq_iff a b
theorem ofBytes_inj {l m : List Int} (hl : isB l) (hm : isB m) (h : ofBytes l = ofBytes m) : l = m := by
  rw [← toBytes_ofBytes hl, h, toBytes_ofBytes hm]

/-! ### right values -/
def numB (n : Int) : Bool := decide (-1099511627775 ≤ n ∧ n ≤ 1099511627775)
def valB (v : V) : Bool :=
  bif v.1 == 0 then (v.2.1 == 0) && sEq v.2.2 eS
  else bif v.1 == 1 then ((v.2.1 == 0) || (v.2.1 == 1)) && sEq v.2.2 eS
  else bif v.1 == 2 then numB v.2.1 && sEq v.2.2 eS
  else bif v.1 == 3 then (v.2.1 == 0) && decide (nI v.2.2.size ≤ 30)
  else false
theorem or_within (x : Int) : decide (0 ≤ x ∧ x ≤ 1) = ((x == 0) || (x == 1)) := by
  by_cases h : 0 ≤ x ∧ x ≤ 1
  · rw [decide_eq_true h]
    have : x = 0 ∨ x = 1 := by omega
    rcases this with rfl | rfl <;> rfl
  · rw [decide_eq_false h]
    have h1 : (x == 0) = false := by simp; omega
    have h2 : (x == 1) = false := by simp; omega
    rw [h1, h2]; rfl
/-- What a right value is. -/
theorem valB_cases {v : V} (h : valB v = true) : v = (0, 0, eS) ∨ (∃ n, (n = 0 ∨ n = 1) ∧ v = (1, n, eS)) ∨ (∃ n, (-1099511627775 ≤ n ∧ n ≤ 1099511627775) ∧ v = (2, n, eS)) ∨ ∃ s : ByteArray, s.size ≤ 30 ∧ v = (3, 0, s) := by
  obtain ⟨t, n, s⟩ := v
  unfold valB at h
  simp only at h
  cases h0 : t == 0
  · cases h1 : t == 1
    · cases h2 : t == 2
      · cases h3 : t == 3
        · rw [h0, h1, h2, h3] at h; cases h
        · rw [h0, h1, h2, h3] at h
          simp only [cond_false, cond_true, Bool.and_eq_true, beq_iff_eq, decide_eq_true_eq] at h h3
          obtain ⟨rfl, h⟩ := h
          subst h3
          exact .inr (.inr (.inr ⟨s, by unfold nI at h; omega, rfl⟩))
      · rw [h0, h1, h2] at h
        simp only [cond_false, cond_true, Bool.and_eq_true, beq_iff_eq] at h h2
        obtain ⟨h, hs⟩ := h
        rw [sEq_iff] at hs
        subst hs; subst h2
        exact .inr (.inr (.inl ⟨n, of_decide_eq_true h, rfl⟩))
    · rw [h0, h1] at h
      simp only [cond_false, cond_true, Bool.and_eq_true, Bool.or_eq_true, beq_iff_eq] at h h1
      obtain ⟨h, hs⟩ := h
      rw [sEq_iff] at hs
      subst hs; subst h1
      exact .inr (.inl ⟨n, h, rfl⟩)
  · rw [h0] at h
    simp only [cond_true, Bool.and_eq_true, beq_iff_eq] at h h0
    obtain ⟨h, hs⟩ := h
    rw [sEq_iff] at hs
    subst hs; subst h0; subst h
    exact .inl rfl
theorem valB_size {v : V} (h : valB v = true) : v.2.2.size ≤ 30 := by
  rcases valB_cases h with rfl | ⟨n, _, rfl⟩ | ⟨n, _, rfl⟩ | ⟨s, hs, rfl⟩
  · show (0 : Nat) ≤ 30; omega
  · show (0 : Nat) ≤ 30; omega
  · show (0 : Nat) ≤ 30; omega
  · exact hs

/-! ### bytes -/
/-- A number in so many bytes. -/
def be (n : Nat) : Nat → List Int
  | 0 => []
  | s + 1 => ((n / 256 ^ s % 256 : Nat) : Int) :: be n s
theorem be_len (n : Nat) : (s : Nat) → (be n s).length = s
  | 0 => rfl
  | s + 1 => by simp [be, be_len n s]
theorem be_isB (n : Nat) : (s : Nat) → isB (be n s)
  | 0 => by intro x hx; cases hx
  | s + 1 => by
    intro x hx
    rcases List.mem_cons.1 hx with rfl | hx
    · omega
    · exact be_isB n s x hx
theorem isB_append {l m : List Int} (hl : isB l) (hm : isB m) : isB (l ++ m) := fun x hx => (List.mem_append.1 hx).elim (hl x) (hm x)
theorem isB_cons {x : Int} {l : List Int} (hx : 0 ≤ x ∧ x < 256) (hl : isB l) : isB (x :: l) := fun y hy => (List.mem_cons.1 hy).elim (fun h => h ▸ hx) (hl y)
theorem isB_nil : isB [] := fun _ h => by cases h
def wB (v : V) : List Int :=
  bif v.1 == 1 then [1, v.2.1]
  else bif v.1 == 2 then 2 :: (bif decide (v.2.1 < 0) then 1 else 0) :: be v.2.1.natAbs 6
  else bif v.1 == 3 then 3 :: nI v.2.2.size :: toBytes v.2.2
  else [0]
def rowW (l : List V) : List Int := nI l.length :: l.flatMap wB
theorem wB_len {v : V} (h : valB v = true) : (wB v).length ≤ 32 := by
  rcases valB_cases h with rfl | ⟨n, _, rfl⟩ | ⟨n, _, rfl⟩ | ⟨s, hs, rfl⟩
  · show (1 : Nat) ≤ 32; omega
  · show (2 : Nat) ≤ 32; omega
  · show (2 :: (bif decide (n < 0) then 1 else 0) :: be n.natAbs 6).length ≤ 32
    simp [be_len]
  · show (3 :: nI s.size :: toBytes s).length ≤ 32
    simp [toBytes_len]; omega
theorem wB_isB {v : V} (h : valB v = true) : isB (wB v) := by
  rcases valB_cases h with rfl | ⟨n, hn, rfl⟩ | ⟨n, _, rfl⟩ | ⟨s, hs, rfl⟩
  · exact isB_cons (by omega) isB_nil
  · exact isB_cons (by omega) (isB_cons (x := n) (by omega) isB_nil)
  · refine isB_cons (x := 2) (by omega) (isB_cons ?_ (be_isB _ _))
    cases decide (n < 0) <;> simp
  · exact isB_cons (x := 3) (by omega) (isB_cons (x := nI s.size) (by unfold nI; omega) (toBytes_isB s))
theorem flat_len : (l : List V) → (∀ v ∈ l, valB v = true) → (l.flatMap wB).length ≤ 32 * l.length
  | [], _ => by simp
  | v :: l, h => by
    have h1 := wB_len (h v (by simp))
    have h2 := flat_len l fun v hv => h v (List.mem_cons_of_mem _ hv)
    simp only [List.flatMap_cons, List.length_append, List.length_cons]
    omega
theorem flat_isB : (l : List V) → (∀ v ∈ l, valB v = true) → isB (l.flatMap wB)
  | [], _ => isB_nil
  | v :: l, h => by
    rw [List.flatMap_cons]
    exact isB_append (wB_isB (h v (by simp))) (flat_isB l fun v hv => h v (List.mem_cons_of_mem _ hv))
theorem rowW_isB {l : List V} (hl : l.length ≤ 255) (h : ∀ v ∈ l, valB v = true) : isB (rowW l) := isB_cons (by unfold nI; omega) (flat_isB l h)
end Go.PI.G
