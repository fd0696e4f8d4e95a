/-
  Printed texts and plain laws. No conditions.
-/
import Derived.Test.YtnijpcgdbjmokaaPc
import Derived.Test.YtnijpcgdbjmokaaV13c
import Derived.Test.YtnijpcgdbjmokaaV13b
set_option linter.unusedVariables false
namespace Go.PI.G
open Go Go.PI

theorem szR_zero {left : Int} (h : 0 ≤ left) : szR left 0 = left := by unfold szR; rw [if_pos (by omega)]; omega
/-- A budget less a text, less a part; what is left goes on. -/
theorem sz_str {left : Int} {n rest : Nat} {F : Int → Res} {k : Int → Res} (h0 : 0 ≤ left) (h1 : left ≤ 1048576) (hn : n ≤ maxLen) (hF : (n : Int) ≤ left → F (left - n) = k (szR (left - n) rest)) :
    (bif decide (wi64 (left - nI n) < 0) then k (-1) else F (wi64 (left - nI n))) = k (szR left (n + rest)) := by
  unfold maxLen at hn
  rw [wi64_of (by unfold nI; omega) (by unfold nI; omega)]
  unfold nI
  by_cases h : (n : Int) ≤ left
  · rw [dec_lt_f (by omega), cond_false, hF h, szR_step h]
  · rw [dec_lt_t (by omega), cond_true, szR_stop h]
theorem sz_sub {left : Int} {n rest : Nat} {F : Int → Res} {k : Int → Res} (h0 : 0 ≤ left) (h1 : left ≤ 1048576) (hF : (n : Int) ≤ left → F (left - n) = k (szR (left - n) rest)) :
    (bif decide (szR left n < 0) then k (-1) else F (szR left n)) = k (szR left (n + rest)) := by
  by_cases h : (n : Int) ≤ left
  · rw [szR_pos h, dec_lt_f (by omega), cond_false, hF h, szR_step h]
  · rw [szR_neg h, dec_lt_t (by omega), cond_true, szR_stop h]
theorem sz_end {left : Int} {k : Int → Res} (h0 : 0 ≤ left) : k left = k (szR left 0) := by rw [szR_zero h0]

theorem inb_nat {i n : Nat} (h : i < n) : inb (i : Int) n = true := inb_of (by omega) (by omega)
theorem wi64_in {n : Int} (h : -9223372036854775808 ≤ n ∧ n < 9223372036854775808) : wi64 n = n := wi64_of h.1 h.2
theorem tdiv_nat (n : Nat) : Int.tdiv (n : Int) 10 = ((n / 10 : Nat) : Int) := by
  rw [Int.tdiv_eq_ediv_of_nonneg (by omega)]; omega
theorem tmod_nat (n : Nat) : Int.tmod (n : Int) 10 = ((n % 10 : Nat) : Int) := by
  rw [Int.tmod_eq_emod_of_nonneg (by omega)]; omega
theorem digt_lo {n : Nat} (h : n < 10) : digt n = dgt n := by rw [digt, dif_pos h]
theorem digt_hi {n : Nat} (h : ¬ n < 10) : digt n = digt (n / 10) ++ dgt ((n % 10 : Nat) : Int) := by rw [digt, dif_neg h]
theorem digt_size : ∀ (d n : Nat), n < 10 ^ (d + 1) → (digt n).size ≤ d + 1
  | 0, n, h => by rw [digt_lo (by omega), dgt_size]; exact Nat.le_refl _
  | d + 1, n, h => by
    by_cases h1 : n < 10
    · rw [digt_lo h1, dgt_size]; omega
    · rw [digt_hi h1, ByteArray.size_append, dgt_size]
      have : n / 10 < 10 ^ (d + 1) := Nat.div_lt_of_lt_mul (by rw [Nat.pow_succ] at h; omega)
      have := digt_size d (n / 10) this
      omega
theorem eS_app (s : ByteArray) : s ++ eS = s := by
  show s ++ ByteArray.empty = s
  simp
theorem app_eS (s : ByteArray) : eS ++ s = s := by
  show ByteArray.empty ++ s = s
  simp
end Go.PI.G
set_option linter.unusedSimpArgs false
namespace Go.PI.G
open Go Go.PI Go.Proofs

def numOf (l : List Int) : Int := l.foldl (fun n x => n * 256 + x) 0
def seg (b : List Int) (at_ size : Nat) : List Int := (b.drop at_).take size
def tk (b : List Int) (at_ size : Nat) : Int := if at_ + size ≤ b.length then numOf (seg b at_ size) else 0
theorem pw (i : Nat) (h : i ≤ 5) : (256 : Int) ^ i ≤ 1099511627776 := by
  have : i = 0 ∨ i = 1 ∨ i = 2 ∨ i = 3 ∨ i = 4 ∨ i = 5 := by omega
  rcases this with rfl | rfl | rfl | rfl | rfl | rfl <;> decide
theorem seg_len {b : List Int} {at_ size : Nat} (h : at_ + size ≤ b.length) : (seg b at_ size).length = size := by
  unfold seg; rw [List.length_take, List.length_drop]; omega
theorem seg_get {b : List Int} {at_ size : Nat} (h : at_ + size ≤ b.length) (i : Nat) (hi : i < (seg b at_ size).length) : (seg b at_ size)[i] = b[at_ + i]'(by rw [seg_len h] at hi; omega) := by
  simp only [seg, List.getElem_take, List.getElem_drop]
theorem seg_isB {b : List Int} (hb : isB b) (at_ size : Nat) : isB (seg b at_ size) := fun x hx => hb x (List.mem_of_mem_drop (List.mem_of_mem_take hx))
theorem seg_sub (b : List Int) (at_ size : Nat) : sub b (at_ : Int) ((at_ : Int) + (size : Int)) = seg b at_ size := by
  unfold sub seg
  rw [show ((at_ : Int) + (size : Int)).toNat = at_ + size by omega, show ((at_ : Int)).toNat = at_ by omega, List.drop_take]
  congr 1
  omega
theorem or_byte (n x : Int) (hn : 0 ≤ n ∧ n < 1099511627776) (hx : 0 ≤ x ∧ x < 256) : orI .i64 (shlI .i64 n 8) (wi64 x) = n * 256 + x := by
  have h1 : shlI .i64 n 8 = n * 256 := by
    unfold shlI
    show wi64 (n * 2 ^ min (8 : Int).toNat 64) = _
    rw [show ((2 : Int) ^ min (8 : Int).toNat 64) = 256 by decide]
    exact wi64_in (by omega)
  rw [h1, wi64_in (n := x) (by omega)]
  unfold orI
  show wi64 (((BitVec.ofInt 64 (n * 256) ||| BitVec.ofInt 64 x).toNat : Nat) : Int) = _
  obtain ⟨a, rfl⟩ : ∃ a : Nat, n = (a : Int) := ⟨n.toNat, by omega⟩
  obtain ⟨c, rfl⟩ : ∃ c : Nat, x = (c : Int) := ⟨x.toNat, by omega⟩
  have e1 : BitVec.ofInt 64 ((a : Int) * 256) = BitVec.ofNat 64 (a * 256) := by
    rw [show (a : Int) * 256 = ((a * 256 : Nat) : Int) by omega, BitVec.ofInt_natCast]
  rw [e1, BitVec.ofInt_natCast, BitVec.toNat_or, BitVec.toNat_ofNat, BitVec.toNat_ofNat, Nat.mod_eq_of_lt (by omega), Nat.mod_eq_of_lt (by omega)]
  have := Nat.two_pow_add_eq_or_of_lt (i := 8) (b := c) (by omega) a
  rw [show a * 256 = 2 ^ 8 * a by omega, ← this]
  rw [wi64_in (by omega)]
  omega
theorem specGet_eq (b : List Int) (hb : isB b) (hl : b.length ≤ 1048576) (at_ size : Nat) (ha : at_ ≤ 1000000000) (hs : 1 ≤ size ∧ size ≤ 6) (k : Int → Bool → Res) : spec_GetNum b (at_ : Int) (size : Int) k = k (tk b at_ size) (decide (at_ + size ≤ b.length)) := by
  unfold spec_GetNum spec_GetNum_p0 tk
  rw [decide_eq_false (show ¬ (size : Int) < 1 by omega), cond_false, decide_eq_false (show ¬ (size : Int) > 6 by omega), cond_false, decide_eq_false (show ¬ (at_ : Int) < 0 by omega), cond_false, wi64_in (by unfold nI; omega)]
  by_cases h : at_ + size ≤ b.length
  · rw [decide_eq_false (show ¬ (at_ : Int) > nI b.length - (size : Int) by unfold nI; omega)]
    dsimp only
    rw [cond_false, if_pos h, decide_eq_true h]
    unfold spec_GetNum_l1
    have hsl := seg_len h
    have := foldl_loop (seg b at_ size) (fun i a => (a, i)) (fun n x => n * 256 + x) (fun i a => 0 ≤ a ∧ a < 256 ^ i) (step := spec_GetNum_l1_s b (at_ : Int) (size : Int)) (fun n => k n true) (fun n => k n true) 0 (by unfold LIM; omega) ⟨by omega, by decide⟩ (fun i a hi hp => by
      have := seg_isB hb at_ size _ (List.getElem_mem hi)
      rw [Int.pow_succ]
      omega) (fun i a rec hi hp => by
      have hx := seg_isB hb at_ size _ (List.getElem_mem hi)
      have hi' : i < size := by omega
      have := pw i (by omega)
      show spec_GetNum_l1_r b _ _ _ _ _ _ = _
      unfold spec_GetNum_l1_r
      dsimp only
      rw [decide_eq_true (show (i : Int) < (size : Int) by omega), cond_true, wi64_in (n := (at_ : Int) + (i : Int)) (by omega), show (at_ : Int) + (i : Int) = ((at_ + i : Nat) : Int) by omega, inb_nat (by omega), cond_true, nth_nat _ _ _ (by omega), ← seg_get h i hi, wi64_in (n := a * 256) (by omega), wi64_in (n := (seg b at_ size)[i]) (by omega), wi64_in (by omega), wi64_in (n := (i : Int) + 1) (by omega)]) (fun a rec _ => by
      show spec_GetNum_l1_r b _ _ _ _ _ _ = _
      unfold spec_GetNum_l1_r
      dsimp only
      rw [hsl, decide_eq_false (by omega), cond_false])
    exact this
  · rw [decide_eq_true (show (at_ : Int) > nI b.length - (size : Int) by unfold nI; omega)]
    dsimp only
    rw [cond_true, if_neg h, decide_eq_false h]
theorem implGet_eq (b : List Int) (hb : isB b) (hl : b.length ≤ 1048576) (at_ size : Nat) (ha : at_ ≤ 1000000000) (hs : 1 ≤ size ∧ size ≤ 6) (k : Int → Bool → Res) : impl_GetNum b (at_ : Int) (size : Int) k = k (tk b at_ size) (decide (at_ + size ≤ b.length)) := by
  unfold impl_GetNum tk
  rw [within_eq, within_eq, decide_eq_true (show (1 : Int) ≤ (size : Int) ∧ (size : Int) ≤ 6 by omega), Bool.not_true, cond_false]
  by_cases h0 : at_ ≤ b.length
  · rw [decide_eq_true (show (0 : Int) ≤ (at_ : Int) ∧ (at_ : Int) ≤ nI b.length by unfold nI; omega), Bool.not_true, cond_false, wi64_in (n := nI b.length - (at_ : Int)) (by unfold nI; omega)]
    by_cases h : at_ + size ≤ b.length
    · rw [decide_eq_false (show ¬ nI b.length - (at_ : Int) < (size : Int) by unfold nI; omega), cond_false, if_pos h, decide_eq_true h, wi64_in (n := (at_ : Int) + (size : Int)) (by omega)]
      have hc : cutb (at_ : Int) ((at_ : Int) + (size : Int)) b.length = true := decide_eq_true (by omega)
      rw [hc, cond_true, seg_sub]
      unfold impl_GetNum_l0
      have hsl := seg_len h
      have := foldl_loop (seg b at_ size) (fun i a => (a, i)) (fun n x => n * 256 + x) (fun i a => 0 ≤ a ∧ a < 256 ^ i) (step := impl_GetNum_l0_s (seg b at_ size) (nI (seg b at_ size).length)) (fun n => k n true) (fun n => k n true) 0 (by unfold LIM; omega) ⟨by omega, by decide⟩ (fun i a hi hp => by
        have := seg_isB hb at_ size _ (List.getElem_mem hi)
        rw [Int.pow_succ]
        omega) (fun i a rec hi hp => by
        have hx := seg_isB hb at_ size _ (List.getElem_mem hi)
        have := pw i (by omega)
        show impl_GetNum_l0_r _ _ _ _ _ _ = _
        unfold impl_GetNum_l0_r
        dsimp only
        rw [nI_lt hi, cond_true, inb_nat hi, cond_true, nth_nat _ _ _ hi, or_byte _ _ (by omega) hx, wi64_in (n := (i : Int) + 1) (by omega)]) (fun a rec _ => by
        show impl_GetNum_l0_r _ _ _ _ _ _ = _
        unfold impl_GetNum_l0_r
        dsimp only
        rw [nI_ge, cond_false])
      exact this
    · rw [decide_eq_true (show nI b.length - (at_ : Int) < (size : Int) by unfold nI; omega), cond_true, if_neg h, decide_eq_false h]
  · rw [decide_eq_false (show ¬ ((0 : Int) ≤ (at_ : Int) ∧ (at_ : Int) ≤ nI b.length) by unfold nI; omega), Bool.not_false, cond_true, if_neg (by omega), decide_eq_false (by omega)]
end Go.PI.G
namespace Go.PI.G
open Go Go.PI Go.Proofs

theorem tk_app {b : List Int} {at_ : Nat} {x post : List Int} (h1 : 1 ≤ x.length) (h : b.drop at_ = x ++ post) : at_ + x.length ≤ b.length ∧ tk b at_ x.length = numOf x ∧ b.drop (at_ + x.length) = post := by
  have hl := congrArg List.length h
  rw [List.length_drop, List.length_append] at hl
  have hle : at_ + x.length ≤ b.length := by omega
  refine ⟨hle, ?_, ?_⟩
  · unfold tk seg
    rw [if_pos hle, h, List.take_left]
  · rw [← List.drop_drop, h, List.drop_left]
theorem tk_one {b : List Int} {at_ : Nat} {x : Int} {post : List Int} (h : b.drop at_ = x :: post) : at_ + 1 ≤ b.length ∧ tk b at_ 1 = x ∧ b.drop (at_ + 1) = post := by
  have := tk_app (x := [x]) (by simp) h
  have e : numOf [x] = x := by simp [numOf]
  rw [e] at this
  exact this
theorem tk_range {b : List Int} (hb : isB b) (at_ : Nat) : 0 ≤ tk b at_ 1 ∧ tk b at_ 1 < 256 := by
  unfold tk
  by_cases h : at_ + 1 ≤ b.length
  · rw [if_pos h]
    have hl := seg_len h
    obtain ⟨x, hx⟩ := List.length_eq_one_iff.1 hl
    have := seg_isB hb at_ 1 x (by rw [hx]; simp)
    rw [hx]
    simp only [numOf, List.foldl_cons, List.foldl_nil]
    omega
  · rw [if_neg h]; omega
theorem tk6_range {b : List Int} (hb : isB b) (at_ : Nat) : 0 ≤ tk b at_ 6 ∧ tk b at_ 6 < 281474976710656 := by
  unfold tk
  by_cases h : at_ + 6 ≤ b.length
  · rw [if_pos h]
    have hl := seg_len h
    have hB := seg_isB hb at_ 6
    match seg b at_ 6, hl, hB with
    | [x0, x1, x2, x3, x4, x5], _, hB =>
      have h0 := hB x0 (by simp)
      have h1 := hB x1 (by simp)
      have h2 := hB x2 (by simp)
      have h3 := hB x3 (by simp)
      have h4 := hB x4 (by simp)
      have h5 := hB x5 (by simp)
      simp only [numOf, List.foldl_cons, List.foldl_nil]
      omega
  · rw [if_neg h]; omega
theorem num_be (n : Nat) (h : n ≤ 1099511627775) : numOf (be n 6) = (n : Int) := by
  simp only [numOf, be, List.foldl_cons, List.foldl_nil]
  rw [show (256 : Nat) ^ 5 = 1099511627776 by decide, show (256 : Nat) ^ 4 = 4294967296 by decide, show (256 : Nat) ^ 3 = 16777216 by decide, show (256 : Nat) ^ 2 = 65536 by decide, show (256 : Nat) ^ 1 = 256 by decide, show (256 : Nat) ^ 0 = 1 by decide]
  omega
theorem sTake (b : List Int) (hb : isB b) (hl : b.length ≤ 1048576) (at_ size : Nat) (ha : at_ ≤ 1000000000) (hs : 1 ≤ size ∧ size ≤ 6) (k : Int → (List Int × Int) → Res) : spec_l06Take (size : Int) (b, (at_ : Int)) k = k (tk b at_ size) (b, ((at_ + size : Nat) : Int)) := by
  unfold spec_l06Take
  dsimp only
  rw [specGet_eq b hb hl at_ size ha hs, wi64_in (by omega)]
  rfl
theorem sTake1 (b : List Int) (hb : isB b) (hl : b.length ≤ 1048576) (at_ : Nat) (ha : at_ ≤ 1000000000) (k : Int → (List Int × Int) → Res) : spec_l06Take 1 (b, (at_ : Int)) k = k (tk b at_ 1) (b, ((at_ + 1 : Nat) : Int)) := sTake b hb hl at_ 1 ha (by omega) k
theorem sTake6 (b : List Int) (hb : isB b) (hl : b.length ≤ 1048576) (at_ : Nat) (ha : at_ ≤ 1000000000) (k : Int → (List Int × Int) → Res) : spec_l06Take 6 (b, (at_ : Int)) k = k (tk b at_ 6) (b, ((at_ + 6 : Nat) : Int)) := sTake b hb hl at_ 6 ha (by omega) k
def iNumV (b : List Int) (at_ size : Nat) (bad : Bool) (k : Int → (List Int × Int × Bool) → Res) : Res := bif bad then k 0 (b, (at_ : Int), true) else bif decide (at_ + size ≤ b.length) then k (tk b at_ size) (b, ((at_ + size : Nat) : Int), false) else k 0 (b, (at_ : Int), true)
theorem iNum (b : List Int) (hb : isB b) (hl : b.length ≤ 1048576) (at_ size : Nat) (ha : at_ ≤ 1000000000) (hs : 1 ≤ size ∧ size ≤ 6) (bad : Bool) (k : Int → (List Int × Int × Bool) → Res) : impl_scan_num (size : Int) (b, (at_ : Int), bad) k = iNumV b at_ size bad k := by
  unfold impl_scan_num iNumV
  dsimp only
  rw [implGet_eq b hb hl at_ size ha hs]
  cases bad
  · rw [cond_false, cond_false]
    cases decide (at_ + size ≤ b.length)
    · rfl
    · rw [Bool.not_true, cond_false, cond_true, wi64_in (by omega)]
      rfl
  · rfl
theorem iNum1 (b : List Int) (hb : isB b) (hl : b.length ≤ 1048576) (at_ : Nat) (ha : at_ ≤ 1000000000) (bad : Bool) (k : Int → (List Int × Int × Bool) → Res) : impl_scan_num 1 (b, (at_ : Int), bad) k = iNumV b at_ 1 bad k := iNum b hb hl at_ 1 ha (by omega) bad k
theorem iNum6 (b : List Int) (hb : isB b) (hl : b.length ≤ 1048576) (at_ : Nat) (ha : at_ ≤ 1000000000) (bad : Bool) (k : Int → (List Int × Int × Bool) → Res) : impl_scan_num 6 (b, (at_ : Int), bad) k = iNumV b at_ 6 bad k := iNum b hb hl at_ 6 ha (by omega) bad k
theorem wB_head {w : V} (h : valB w = true) : wB w = w.1 :: (wB w).tail := by
  rcases valB_cases h with rfl | ⟨n, _, rfl⟩ | ⟨n, _, rfl⟩ | ⟨s, _, rfl⟩ <;> rfl

/-! ### the reference's reader of a value -/
theorem sText (b : List Int) (hb : isB b) (hl : b.length ≤ 1048576) (at_ m : Nat) (ha : at_ ≤ 1000000000) (hm : m < 256) : ∃ (s : ByteArray) (at' : Nat), at' ≤ at_ + 1050000 ∧ (∀ k, spec_l06Text (m : Int) (b, (at_ : Int)) k = k s (b, (at' : Int))) ∧ ∀ (x : List Int) post, x.length = m → at_ ≤ b.length → b.drop at_ = x ++ post → s = ofBytes x ∧ b.drop at' = post := by
  by_cases h : at_ + m ≤ b.length
  · refine ⟨ofBytes (seg b at_ m), at_ + m, by omega, fun k => ?_, fun x post hx _ hd => ?_⟩
    · unfold spec_l06Text spec_l06Text_p0
      dsimp only
      rw [wi64_in (n := nI b.length - (at_ : Int)) (by unfold nI; omega), decide_eq_false (show ¬ (m : Int) > nI b.length - (at_ : Int) by unfold nI; omega), cond_false, decide_eq_false (show ¬ (at_ : Int) > nI b.length by unfold nI; omega), cond_false, wi64_in (n := (at_ : Int) + (m : Int)) (by omega), show (at_ : Int) + (m : Int) - (m : Int) = (at_ : Int) by omega, wi64_in (n := (at_ : Int)) (by omega)]
      have hc : cutb (at_ : Int) ((at_ : Int) + (m : Int)) b.length = true := decide_eq_true (by omega)
      rw [hc, cond_true, seg_sub]
      rfl
    · subst hx
      unfold seg
      rw [hd, List.take_left, ← List.drop_drop, hd, List.drop_left]
      exact ⟨rfl, rfl⟩
  · refine ⟨eS, b.length + 1, by omega, fun k => ?_, fun x post hx hle hd => ?_⟩
    · unfold spec_l06Text spec_l06Text_p0
      dsimp only
      rw [wi64_in (n := nI b.length - (at_ : Int)) (by unfold nI; omega), decide_eq_true (show (m : Int) > nI b.length - (at_ : Int) by unfold nI; omega), cond_true, cond_true, wi64_in (by unfold nI; omega)]
      rfl
    · have hl := congrArg List.length hd
      rw [List.length_drop, List.length_append] at hl
      omega
theorem sVal (b : List Int) (hb : isB b) (hl : b.length ≤ 1048576) (at_ : Nat) (ha : at_ ≤ 900000000) : ∃ (v : V) (at' : Nat), at' ≤ at_ + 1050010 ∧ (∀ k, spec_l06Val (b, (at_ : Int)) k = k v (b, (at' : Int))) ∧ ∀ w post, valB w = true → b.drop at_ = wB w ++ post → v = w ∧ b.drop at' = post := by
  have hd1 : ∀ w post, valB w = true → b.drop at_ = wB w ++ post → tk b at_ 1 = w.1 ∧ b.drop (at_ + 1) = (wB w).tail ++ post := fun w post hw h => by
    rw [wB_head hw, List.cons_append] at h
    exact ⟨(tk_one h).2.1, (tk_one h).2.2⟩
  have hu : ∀ k, spec_l06Val (b, (at_ : Int)) k = spec_l06Val_p0 (tk b at_ 1) (tk b at_ 1, 0, eS) (b, ((at_ + 1 : Nat) : Int)) k := fun k => by
    unfold spec_l06Val
    rw [sTake1 b hb hl at_ (by omega)]
  by_cases t1 : tk b at_ 1 = 1
  · refine ⟨(1, tk b (at_ + 1) 1, eS), at_ + 1 + 1, by omega, fun k => ?_, fun w post hw h => ?_⟩
    · rw [hu, t1]
      unfold spec_l06Val_p0
      rw [show ((1 : Int) == 1) = true from rfl, cond_true, sTake1 b hb hl _ (by omega)]
    · obtain ⟨e1, e2⟩ := hd1 w post hw h
      rcases valB_cases hw with rfl | ⟨n, hn, rfl⟩ | ⟨n, hn, rfl⟩ | ⟨s, hs, rfl⟩
      · simp only at e1; omega
      · obtain ⟨_, f1, f2⟩ := tk_one (x := n) (post := post) e2
        exact ⟨by rw [f1], f2⟩
      · simp only at e1; omega
      · simp only at e1; omega
  by_cases t2 : tk b at_ 1 = 2
  · have r6 := tk6_range hb (at_ + 1 + 1)
    refine ⟨(2, if tk b (at_ + 1) 1 = 1 then 0 - tk b (at_ + 1 + 1) 6 else tk b (at_ + 1 + 1) 6, eS), at_ + 1 + 1 + 6, by omega, fun k => ?_, fun w post hw h => ?_⟩
    · rw [hu, t2]
      unfold spec_l06Val_p0
      rw [show ((2 : Int) == 1) = false from rfl, cond_false, show ((2 : Int) == 2) = true from rfl, cond_true, sTake1 b hb hl _ (by omega), sTake6 b hb hl _ (by omega), wi64_in (by omega)]
      by_cases h1 : tk b (at_ + 1) 1 = 1
      · rw [if_pos h1, h1]; rfl
      · rw [if_neg h1, show (tk b (at_ + 1) 1 == 1) = false by simp [h1]]; rfl
    · obtain ⟨e1, e2⟩ := hd1 w post hw h
      rcases valB_cases hw with rfl | ⟨n, hn, rfl⟩ | ⟨n, hn, rfl⟩ | ⟨s, hs, rfl⟩
      · simp only at e1; omega
      · simp only at e1; omega
      · obtain ⟨_, f1, f2⟩ := tk_one (x := bif decide (n < 0) then 1 else 0) (post := be n.natAbs 6 ++ post) e2
        have h6 := tk_app (x := be n.natAbs 6) (post := post) (by rw [be_len]; omega) f2
        rw [be_len, num_be _ (by omega)] at h6
        refine ⟨?_, h6.2.2⟩
        rw [f1, h6.2.1]
        by_cases h0 : n < 0
        · rw [decide_eq_true h0, cond_true, if_pos rfl, show (0 : Int) - (n.natAbs : Int) = n by omega]
        · rw [decide_eq_false h0, cond_false, if_neg (by omega), show ((n.natAbs : Nat) : Int) = n by omega]
      · simp only at e1; omega
  by_cases t3 : tk b at_ 1 = 3
  · have r1 := tk_range hb (at_ + 1)
    obtain ⟨m, hm⟩ : ∃ m : Nat, tk b (at_ + 1) 1 = (m : Int) := ⟨(tk b (at_ + 1) 1).toNat, by omega⟩
    obtain ⟨s, at', q1, q2, q3⟩ := sText b hb hl (at_ + 1 + 1) m (by omega) (by omega)
    refine ⟨(3, 0, s), at', by omega, fun k => ?_, fun w post hw h => ?_⟩
    · rw [hu, t3]
      unfold spec_l06Val_p0
      rw [show ((3 : Int) == 1) = false from rfl, cond_false, show ((3 : Int) == 2) = false from rfl, cond_false, show ((3 : Int) == 3) = true from rfl, cond_true, sTake1 b hb hl _ (by omega), hm, q2]
    · obtain ⟨e1, e2⟩ := hd1 w post hw h
      rcases valB_cases hw with rfl | ⟨n, hn, rfl⟩ | ⟨n, hn, rfl⟩ | ⟨x, hx, rfl⟩
      · simp only at e1; omega
      · simp only at e1; omega
      · simp only at e1; omega
      · obtain ⟨f0, f1, f2⟩ := tk_one (x := nI x.size) (post := toBytes x ++ post) e2
        have := q3 (toBytes x) post (by rw [toBytes_len]; unfold nI at f1; omega) (by omega) f2
        rw [ofBytes_toBytes] at this
        exact ⟨by rw [this.1], this.2⟩
  · refine ⟨(tk b at_ 1, 0, eS), at_ + 1, by omega, fun k => ?_, fun w post hw h => ?_⟩
    · rw [hu]
      unfold spec_l06Val_p0
      rw [show (tk b at_ 1 == 1) = false by simp [t1], cond_false, show (tk b at_ 1 == 2) = false by simp [t2], cond_false, show (tk b at_ 1 == 3) = false by simp [t3], cond_false]
    · obtain ⟨e1, e2⟩ := hd1 w post hw h
      rcases valB_cases hw with rfl | ⟨n, hn, rfl⟩ | ⟨n, hn, rfl⟩ | ⟨x, hx, rfl⟩
      · exact ⟨by rw [e1], e2⟩
      · simp only at e1; omega
      · simp only at e1; omega
      · simp only at e1; omega
end Go.PI.G
namespace Go.PI.G
open Go Go.PI Go.Proofs

theorem iN (b : List Int) (hb : isB b) (hl : b.length ≤ 1048576) (at_ size : Nat) (ha : at_ ≤ 1000000000) (hs : size = 1 ∨ size = 6) (bad : Bool) : ∃ (n : Int) (at' : Nat) (bad' : Bool), at' ≤ at_ + 6 ∧ 0 ≤ n ∧ n < 281474976710656 ∧ (size = 1 → n < 256) ∧ (∀ k, impl_scan_num (size : Int) (b, (at_ : Int), bad) k = k n (b, (at' : Int), bad')) ∧ (bad = false → ∀ x post, x.length = size → b.drop at_ = x ++ post → n = numOf x ∧ bad' = false ∧ b.drop at' = post ∧ at' ≤ b.length) := by
  have hs' : 1 ≤ size ∧ size ≤ 6 := by omega
  cases bad
  · by_cases h : at_ + size ≤ b.length
    · have hr : 0 ≤ tk b at_ size ∧ tk b at_ size < 281474976710656 ∧ (size = 1 → tk b at_ size < 256) := by
        rcases hs with rfl | rfl
        · have := tk_range hb at_
          exact ⟨this.1, by omega, fun _ => this.2⟩
        · have := tk6_range hb at_
          exact ⟨this.1, this.2, fun h => by omega⟩
      refine ⟨tk b at_ size, at_ + size, false, by omega, hr.1, hr.2.1, hr.2.2, fun k => ?_, fun _ x post hx hd => ?_⟩
      · rw [iNum b hb hl at_ size ha hs']
        unfold iNumV
        rw [cond_false, decide_eq_true h, cond_true]
      · subst hx
        have := tk_app hs'.1 hd
        exact ⟨this.2.1, rfl, this.2.2, this.1⟩
    · refine ⟨0, at_, true, by omega, by omega, by omega, fun _ => by omega, fun k => ?_, fun _ x post hx hd => ?_⟩
      · rw [iNum b hb hl at_ size ha hs']
        unfold iNumV
        rw [cond_false, decide_eq_false h, cond_false]
      · subst hx
        exact absurd (tk_app hs'.1 hd).1 h
  · refine ⟨0, at_, true, by omega, by omega, by omega, fun _ => by omega, fun k => ?_, fun h => by cases h⟩
    rw [iNum b hb hl at_ size ha hs']
    rfl
theorem iText (b : List Int) (hb : isB b) (hl : b.length ≤ 1048576) (at_ : Nat) (ha : at_ ≤ 900000000) (bad : Bool) : ∃ (s : ByteArray) (at' : Nat) (bad' : Bool), at' ≤ at_ + 300 ∧ (∀ k, impl_scan_text (b, (at_ : Int), bad) k = k s (b, (at' : Int), bad')) ∧ (bad = false → ∀ (x : ByteArray) post, x.size ≤ 30 → b.drop at_ = nI x.size :: (toBytes x ++ post) → s = x ∧ bad' = false ∧ b.drop at' = post) := by
  obtain ⟨n, a1, b1, q0, q1, q2, q3, q4, q5⟩ := iN b hb hl at_ 1 (by omega) (.inl rfl) bad
  have hn := q3 rfl
  obtain ⟨m, rfl⟩ : ∃ m : Nat, n = (m : Int) := ⟨n.toNat, by omega⟩
  have hu : ∀ k, impl_scan_text (b, (at_ : Int), bad) k = impl_scan_take (m : Int) (b, (a1 : Int), b1) fun r1 bt => k (ofBytes r1) bt := fun k => by
    unfold impl_scan_text
    exact q4 _
  cases b1
  · by_cases h : a1 + m ≤ b.length
    · refine ⟨ofBytes (seg b a1 m), a1 + m, false, by omega, fun k => ?_, fun hbad x post hx hd => ?_⟩
      · rw [hu]
        unfold impl_scan_take
        dsimp only
        rw [cond_false, wi64_in (n := nI b.length - (a1 : Int)) (by unfold nI; omega), decide_eq_false (show ¬ (m : Int) > nI b.length - (a1 : Int) by unfold nI; omega), cond_false, wi64_in (n := (a1 : Int) + (m : Int)) (by omega), show (a1 : Int) + (m : Int) - (m : Int) = (a1 : Int) by omega, wi64_in (n := (a1 : Int)) (by omega)]
        have hc : cutb (a1 : Int) ((a1 : Int) + (m : Int)) b.length = true := decide_eq_true (by omega)
        rw [hc, cond_true, seg_sub]
        rfl
      · obtain ⟨f1, f2, f3, f4⟩ := q5 hbad [nI x.size] (toBytes x ++ post) rfl hd
        have e : numOf [nI x.size] = nI x.size := by simp [numOf]
        rw [e] at f1
        have hm : m = (toBytes x).length := by rw [toBytes_len]; unfold nI at f1; omega
        subst hm
        unfold seg
        rw [f3, List.take_left, ← List.drop_drop, f3, List.drop_left, ofBytes_toBytes]
        exact ⟨rfl, rfl, rfl⟩
    · refine ⟨ofBytes [], a1, true, by omega, fun k => ?_, fun hbad x post hx hd => ?_⟩
      · rw [hu]
        unfold impl_scan_take
        dsimp only
        rw [cond_false, wi64_in (n := nI b.length - (a1 : Int)) (by unfold nI; omega), decide_eq_true (show (m : Int) > nI b.length - (a1 : Int) by unfold nI; omega), cond_true]
      · obtain ⟨f1, f2, f3, f4⟩ := q5 hbad [nI x.size] (toBytes x ++ post) rfl hd
        have e : numOf [nI x.size] = nI x.size := by simp [numOf]
        rw [e] at f1
        have hm : m = (toBytes x).length := by rw [toBytes_len]; unfold nI at f1; omega
        have hl := congrArg List.length f3
        rw [List.length_drop, List.length_append] at hl
        omega
  · refine ⟨ofBytes [], a1, true, by omega, fun k => ?_, fun hbad x post hx hd => ?_⟩
    · rw [hu]; rfl
    · exact absurd (q5 hbad [nI x.size] (toBytes x ++ post) rfl hd).2.1 (by simp)
theorem one_num (x : Int) : numOf [x] = x := by simp [numOf]
theorem iVal (b : List Int) (hb : isB b) (hl : b.length ≤ 1048576) (at_ : Nat) (ha : at_ ≤ 800000000) (bad : Bool) : ∃ (v : V) (at' : Nat) (bad' : Bool), at' ≤ at_ + 400 ∧ (∀ k, impl_scan_val (b, (at_ : Int), bad) k = k v (b, (at' : Int), bad')) ∧ (bad = false → ∀ w post, valB w = true → b.drop at_ = wB w ++ post → v = w ∧ bad' = false ∧ b.drop at' = post) := by
  obtain ⟨t, a1, b1, q0, q1, q2, q3, q4, q5⟩ := iN b hb hl at_ 1 (by omega) (.inl rfl) bad
  have hd1 : bad = false → ∀ w post, valB w = true → b.drop at_ = wB w ++ post → t = w.1 ∧ b1 = false ∧ b.drop a1 = (wB w).tail ++ post := fun hbad w post hw h => by
    rw [wB_head hw, List.cons_append] at h
    obtain ⟨f1, f2, f3, f4⟩ := q5 hbad [w.1] _ rfl h
    rw [one_num] at f1
    exact ⟨f1, f2, f3⟩
  have hu : ∀ k, impl_scan_val (b, (at_ : Int), bad) k = impl_scan_val_p0 t (t, 0, eS) (b, (a1 : Int), b1) k := fun k => by
    unfold impl_scan_val
    exact q4 _
  obtain ⟨n2, a2, b2, p0, p1, p2, p3, p4, p5⟩ := iN b hb hl a1 1 (by omega) (.inl rfl) b1
  by_cases t1 : t = 1
  · refine ⟨(1, n2, eS), a2, b2, by omega, fun k => ?_, fun hbad w post hw h => ?_⟩
    · rw [hu, t1]
      unfold impl_scan_val_p0
      rw [show ((1 : Int) == 1) = true from rfl, cond_true]
      exact p4 _
    · obtain ⟨e1, e2, e3⟩ := hd1 hbad w post hw h
      rcases valB_cases hw with rfl | ⟨n, hn, rfl⟩ | ⟨n, hn, rfl⟩ | ⟨s, hs, rfl⟩
      · simp only at e1; omega
      · obtain ⟨f1, f2, f3, _⟩ := p5 e2 [n] post rfl e3
        rw [one_num] at f1
        exact ⟨by rw [f1], f2, f3⟩
      · simp only at e1; omega
      · simp only at e1; omega
  by_cases t2 : t = 2
  · obtain ⟨n3, a3, b3, r0, r1, r2, r3, r4, r5⟩ := iN b hb hl a2 6 (by omega) (.inr rfl) b2
    refine ⟨(2, if n2 = 1 then 0 - n3 else n3, eS), a3, b3, by omega, fun k => ?_, fun hbad w post hw h => ?_⟩
    · rw [hu, t2]
      unfold impl_scan_val_p0
      rw [show ((2 : Int) == 1) = false from rfl, cond_false, show ((2 : Int) == 2) = true from rfl, cond_true]
      refine (p4 _).trans ?_
      refine (r4 _).trans ?_
      rw [wi64_in (by omega)]
      by_cases h1 : n2 = 1
      · rw [if_pos h1, h1]; rfl
      · rw [if_neg h1, show (n2 == 1) = false by simp [h1]]; rfl
    · obtain ⟨e1, e2, e3⟩ := hd1 hbad w post hw h
      rcases valB_cases hw with rfl | ⟨n, hn, rfl⟩ | ⟨n, hn, rfl⟩ | ⟨s, hs, rfl⟩
      · simp only at e1; omega
      · simp only at e1; omega
      · obtain ⟨f1, f2, f3, _⟩ := p5 e2 [bif decide (n < 0) then 1 else 0] (be n.natAbs 6 ++ post) rfl e3
        obtain ⟨g1, g2, g3, _⟩ := r5 f2 (be n.natAbs 6) post (be_len _ _) f3
        rw [one_num] at f1
        rw [num_be _ (by omega)] at g1
        refine ⟨?_, g2, g3⟩
        rw [f1, g1]
        by_cases h0 : n < 0
        · rw [decide_eq_true h0, cond_true, if_pos rfl, show (0 : Int) - (n.natAbs : Int) = n by omega]
        · rw [decide_eq_false h0, cond_false, if_neg (by omega), show ((n.natAbs : Nat) : Int) = n by omega]
      · simp only at e1; omega
  by_cases t3 : t = 3
  · obtain ⟨s, a3, b3, r0, r4, r5⟩ := iText b hb hl a1 (by omega) b1
    refine ⟨(3, 0, s), a3, b3, by omega, fun k => ?_, fun hbad w post hw h => ?_⟩
    · rw [hu, t3]
      unfold impl_scan_val_p0
      rw [show ((3 : Int) == 1) = false from rfl, cond_false, show ((3 : Int) == 2) = false from rfl, cond_false, show ((3 : Int) == 3) = true from rfl, cond_true]
      exact r4 _
    · obtain ⟨e1, e2, e3⟩ := hd1 hbad w post hw h
      rcases valB_cases hw with rfl | ⟨n, hn, rfl⟩ | ⟨n, hn, rfl⟩ | ⟨x, hx, rfl⟩
      · simp only at e1; omega
      · simp only at e1; omega
      · simp only at e1; omega
      · obtain ⟨f1, f2, f3⟩ := r5 e2 x post hx e3
        exact ⟨by rw [f1], f2, f3⟩
  · refine ⟨(t, 0, eS), a1, b1, by omega, fun k => ?_, fun hbad w post hw h => ?_⟩
    · rw [hu]
      unfold impl_scan_val_p0
      rw [show (t == 1) = false by simp [t1], cond_false, show (t == 2) = false by simp [t2], cond_false, show (t == 3) = false by simp [t3], cond_false]
    · obtain ⟨e1, e2, e3⟩ := hd1 hbad w post hw h
      rcases valB_cases hw with rfl | ⟨n, hn, rfl⟩ | ⟨n, hn, rfl⟩ | ⟨x, hx, rfl⟩
      · exact ⟨by rw [e1], e2, e3⟩
      · simp only at e1; omega
      · simp only at e1; omega
      · simp only at e1; omega

/-! ### rows of values -/
theorem sv_step (n : Int) (out : List V) (i : Int) (e : List Int × Int) (rec : List V × Int × (List Int × Int) → Res) (k : List V → (List Int × Int) → Res) : spec_l06Vals_l0_s n (out, i, e) rec k = spec_l06Vals_l0_r n out i e (fun out i e0 => rec (out, i, e0)) k := rfl
theorem iv_step (n : Int) (out : List V) (i : Int) (e : List Int × Int × Bool) (rec : List V × Int × (List Int × Int × Bool) → Res) (k : List V → (List Int × Int × Bool) → Res) : impl_scan_vals_l0_s n (out, i, e) rec k = impl_scan_vals_l0_r n out i e (fun out i e0 => rec (out, i, e0)) k := rfl
theorem sLoop (b : List Int) (hb : isB b) (hl : b.length ≤ 1048576) (n : Int) : ∀ (d i m : Nat) (out : List V) (at_ : Nat), i + d = 9 → d < m → out.length = i → at_ + d * 1050010 ≤ 800000000 → ∃ (r : List V) (at' : Nat), r.length ≤ 9 ∧ (∀ k : List V → (List Int × Int) → Res, iter (spec_l06Vals_l0_s n) m (out, (i : Int), (b, (at_ : Int))) k = k r (b, (at' : Int))) ∧ ∀ ws post, (∀ w ∈ ws, valB w = true) → n = (i : Int) + (ws.length : Int) → i + ws.length ≤ 8 → b.drop at_ = ws.flatMap wB ++ post → r = out ++ ws := by
  intro d
  induction d with
  | zero =>
    intro i m out at_ hi hm ho ha
    obtain ⟨m, rfl⟩ : ∃ e, m = e + 1 := ⟨m - 1, by omega⟩
    refine ⟨out, at_, by omega, fun k => ?_, fun ws post _ hn h8 _ => by omega⟩
    rw [iter_succ, sv_step]
    unfold spec_l06Vals_l0_r
    dsimp only
    rw [decide_eq_false (show ¬ (i : Int) ≤ 8 by omega), cond_false]
    cases decide ((i : Int) < n) <;> rfl
  | succ d ih =>
    intro i m out at_ hi hm ho ha
    obtain ⟨m, rfl⟩ : ∃ e, m = e + 1 := ⟨m - 1, by omega⟩
    by_cases h : (i : Int) < n
    · obtain ⟨v, a1, q1, q2, q3⟩ := sVal b hb hl at_ (by omega)
      obtain ⟨r, a2, p1, p2, p3⟩ := ih (i + 1) m (out ++ [v]) a1 (by omega) (by omega) (by rw [List.length_append, List.length_singleton, ho]) (by omega)
      refine ⟨r, a2, p1, fun k => ?_, fun ws post hw hn h8 hd => ?_⟩
      · rw [iter_succ, sv_step]
        unfold spec_l06Vals_l0_r
        dsimp only
        rw [decide_eq_true h, cond_true, decide_eq_true (show (i : Int) ≤ 8 by omega), cond_true, q2, lim_of (by unfold LIM; omega), cond_true, wi64_in (by omega)]
        have := p2 k
        rw [show ((i + 1 : Nat) : Int) = (i : Int) + 1 by omega] at this
        exact this
      · cases ws with
        | nil => simp only [List.length_nil] at hn; omega
        | cons w ws =>
          rw [List.flatMap_cons, List.append_assoc] at hd
          obtain ⟨e1, e2⟩ := q3 w _ (hw w (by simp)) hd
          rw [List.length_cons] at hn h8
          have := p3 ws post (fun x hx => hw x (List.mem_cons_of_mem _ hx)) (by omega) (by omega) e2
          rw [this, e1, List.append_assoc]
          rfl
    · refine ⟨out, at_, by omega, fun k => ?_, fun ws post _ hn h8 _ => ?_⟩
      · rw [iter_succ, sv_step]
        unfold spec_l06Vals_l0_r
        dsimp only
        rw [decide_eq_false h, cond_false]
      · cases ws with
        | nil => simp
        | cons w ws => rw [List.length_cons] at hn; omega
theorem sVals (b : List Int) (hb : isB b) (hl : b.length ≤ 1048576) : ∃ (r : List V) (at' : Nat), r.length ≤ 9 ∧ (∀ k, spec_l06Vals (b, 0) k = k r (b, (at' : Int))) ∧ ∀ ws, ws.length ≤ 8 → (∀ w ∈ ws, valB w = true) → b = rowW ws → r = ws := by
  have hf : 9 < FUEL := FUEL_lt (by omega)
  obtain ⟨r, a, q1, q2, q3⟩ := sLoop b hb hl (tk b 0 1) 9 0 FUEL [] (0 + 1) (by omega) hf rfl (by omega)
  refine ⟨r, a, q1, fun k => ?_, fun ws h8 hw hb' => ?_⟩
  · unfold spec_l06Vals
    have := sTake1 b hb hl 0 (by omega) (fun (r : Int) (bt24 : List Int × Int) => spec_l06Vals_l0 r FUEL [] 0 bt24 fun (out : List V) (e : List Int × Int) => k out e)
    refine Eq.trans this ?_
    exact q2 k
  · have hd : b.drop 0 = nI ws.length :: ws.flatMap wB := by rw [List.drop_zero, hb']; rfl
    obtain ⟨_, f1, f2⟩ := tk_one hd
    have := q3 ws [] hw (by rw [f1]; unfold nI; omega) (by omega) (by rw [f2, List.append_nil])
    rw [this]; rfl
theorem iLoop (b : List Int) (hb : isB b) (hl : b.length ≤ 1048576) (n : Nat) (hn : n ≤ 8) : ∀ (d i m : Nat) (out : List V) (at_ : Nat) (bad : Bool), i + d = n → d < m → out.length = i → at_ + d * 400 ≤ 700000000 → ∃ (r : List V) (at' : Nat) (bad' : Bool), r.length ≤ 9 ∧ (∀ k : List V → (List Int × Int × Bool) → Res, iter (impl_scan_vals_l0_s (n : Int)) m (out, (i : Int), (b, (at_ : Int), bad)) k = k r (b, (at' : Int), bad')) ∧ (bad = false → ∀ ws post, (∀ w ∈ ws, valB w = true) → n = i + ws.length → b.drop at_ = ws.flatMap wB ++ post → r = out ++ ws ∧ bad' = false) := by
  intro d
  induction d with
  | zero =>
    intro i m out at_ bad hi hm ho ha
    obtain ⟨m, rfl⟩ : ∃ e, m = e + 1 := ⟨m - 1, by omega⟩
    refine ⟨out, at_, bad, by omega, fun k => ?_, fun hbad ws post _ hn' _ => ?_⟩
    · rw [iter_succ, iv_step]
      unfold impl_scan_vals_l0_r
      dsimp only
      rw [decide_eq_false (show ¬ (i : Int) < (n : Int) by omega), cond_false]
    · cases ws with
      | nil => exact ⟨by simp, hbad⟩
      | cons w ws => rw [List.length_cons] at hn'; omega
  | succ d ih =>
    intro i m out at_ bad hi hm ho ha
    obtain ⟨m, rfl⟩ : ∃ e, m = e + 1 := ⟨m - 1, by omega⟩
    obtain ⟨v, a1, b1, q1, q2, q3⟩ := iVal b hb hl at_ (by omega) bad
    obtain ⟨r, a2, b2, p1, p2, p3⟩ := ih (i + 1) m (out ++ [v]) a1 b1 (by omega) (by omega) (by rw [List.length_append, List.length_singleton, ho]) (by omega)
    refine ⟨r, a2, b2, p1, fun k => ?_, fun hbad ws post hw hn' hd => ?_⟩
    · rw [iter_succ, iv_step]
      unfold impl_scan_vals_l0_r
      dsimp only
      rw [decide_eq_true (show (i : Int) < (n : Int) by omega), cond_true, q2, lim_of (by unfold LIM; omega), cond_true, wi64_in (by omega)]
      have := p2 k
      rw [show ((i + 1 : Nat) : Int) = (i : Int) + 1 by omega] at this
      exact this
    · cases ws with
      | nil => simp only [List.length_nil] at hn'; omega
      | cons w ws =>
        rw [List.flatMap_cons, List.append_assoc] at hd
        obtain ⟨e1, e2, e3⟩ := q3 hbad w _ (hw w (by simp)) hd
        rw [List.length_cons] at hn'
        have := p3 e2 ws post (fun x hx => hw x (List.mem_cons_of_mem _ hx)) (by omega) e3
        refine ⟨?_, this.2⟩
        rw [this.1, e1, List.append_assoc]
        rfl
theorem iVals (b : List Int) (hb : isB b) (hl : b.length ≤ 1048576) : ∃ (r : List V) (at' : Nat) (bad' : Bool), r.length ≤ 9 ∧ (∀ k, impl_scan_vals (b, 0, false) k = k r (b, (at' : Int), bad')) ∧ ∀ ws, ws.length ≤ 8 → (∀ w ∈ ws, valB w = true) → b = rowW ws → r = ws ∧ bad' = false := by
  obtain ⟨t, a1, b1, q0, q1, q2, q3, q4, q5⟩ := iN b hb hl 0 1 (by omega) (.inl rfl) false
  have hf : 9 < FUEL := FUEL_lt (by omega)
  have hd : ∀ ws : List V, b = rowW ws → b.drop 0 = [nI ws.length] ++ ws.flatMap wB := fun ws h => by rw [List.drop_zero, h]; rfl
  have ex : ∃ (n : Nat) (bb : Bool), n ≤ 8 ∧ (∀ k, impl_scan_many 8 (b, 0, false) k = k (n : Int) (b, (a1 : Int), bb)) ∧ (∀ ws : List V, ws.length ≤ 8 → b = rowW ws → n = ws.length ∧ bb = false ∧ b.drop a1 = ws.flatMap wB) := by
    have hu : ∀ k, impl_scan_many 8 (b, 0, false) k = (bif decide (t > 8) then k 0 (b, (a1 : Int), true) else bif b1 then k 0 (b, (a1 : Int), b1) else k t (b, (a1 : Int), b1)) := fun k => by
      unfold impl_scan_many
      exact q4 _
    have hr : ∀ ws : List V, b = rowW ws → t = nI ws.length ∧ b1 = false ∧ b.drop a1 = ws.flatMap wB := fun ws h => by
      obtain ⟨f1, f2, f3, _⟩ := q5 rfl [nI ws.length] _ rfl (hd ws h)
      rw [one_num] at f1
      exact ⟨f1, f2, f3⟩
    by_cases h8 : t > 8
    · refine ⟨0, true, by omega, fun k => by rw [hu, decide_eq_true h8]; rfl, fun ws hw h => ?_⟩
      have := (hr ws h).1
      unfold nI at this
      omega
    · cases b1
      · refine ⟨t.toNat, false, by omega, fun k => by rw [hu, decide_eq_false h8, cond_false, cond_false, show ((t.toNat : Nat) : Int) = t by omega], fun ws hw h => ?_⟩
        have := hr ws h
        exact ⟨by have := this.1; unfold nI at this; omega, rfl, this.2.2⟩
      · refine ⟨0, true, by omega, fun k => by rw [hu, decide_eq_false h8]; rfl, fun ws hw h => ?_⟩
        exact absurd (hr ws h).2.1 (by simp)
  obtain ⟨n, bb, h8, e1, e2⟩ := ex
  obtain ⟨r, a, b2, p1, p2, p3⟩ := iLoop b hb hl n h8 n 0 FUEL [] a1 bb (by omega) (by omega) rfl (by omega)
  refine ⟨r, a, b2, p1, fun k => ?_, fun ws hw8 hw h => ?_⟩
  · unfold impl_scan_vals
    refine (e1 _).trans ?_
    exact p2 k
  · obtain ⟨f1, f2, f3⟩ := e2 ws hw8 h
    have := p3 f2 ws [] hw (by omega) (by rw [f3, List.append_nil])
    exact ⟨by rw [this.1]; rfl, this.2⟩
end Go.PI.G
namespace Go.PI.G
open Go Go.PI Go.Proofs

theorem pow_cases {P : Nat → Prop} (h0 : P 0) (h1 : P 1) (h2 : P 2) (h3 : P 3) (h4 : P 4) (h5 : P 5) (s : Nat) (h : s ≤ 5) : P s := by
  have : s = 0 ∨ s = 1 ∨ s = 2 ∨ s = 3 ∨ s = 4 ∨ s = 5 := by omega
  rcases this with rfl | rfl | rfl | rfl | rfl | rfl <;> assumption
theorem pow_eq (s : Nat) (hs : s ≤ 6) (k : Int → Res) : spec_l06Pow (s : Int) k = k ((256 : Int) ^ s) := by
  unfold spec_l06Pow spec_l06Pow_l0
  have hl : (List.replicate s ()).length = s := by simp
  refine foldl_loop (List.replicate s ()) (fun i a => (a, i)) (fun (a : Int) _ => a * 256) (fun i a => a = (256 : Int) ^ i) (step := spec_l06Pow_l0_s (s : Int)) (fun p => k p) (fun _ => k ((256 : Int) ^ s)) 1 (by rw [hl]; unfold LIM; omega) (by simp) (fun i a hi hp => by
    rw [Int.pow_succ, hp]) (fun i a rec hi hp => by
    rw [hl] at hi
    show spec_l06Pow_l0_r _ _ _ _ _ = _
    unfold spec_l06Pow_l0_r
    dsimp only
    have h1 := pw i (by omega)
    have h2 : (0 : Int) < 256 ^ i := Int.pow_pos (by omega)
    rw [decide_eq_true (show (i : Int) < (s : Int) by omega), cond_true, wi64_in (n := a * 256) (by rw [hp]; omega), wi64_in (by omega)]) (fun a rec hp => by
    rw [hl] at hp ⊢
    show spec_l06Pow_l0_r _ _ _ _ _ = _
    unfold spec_l06Pow_l0_r
    dsimp only
    rw [decide_eq_false (by omega), cond_false, hp])
theorem byte_spec (n s : Nat) (h : n ≤ 1099511627775) (hs : s ≤ 5) : wu8 (Int.tmod (wi64 (Int.tdiv (n : Int) ((256 : Int) ^ s))) 256) = ((n / 256 ^ s % 256 : Nat) : Int) := by
  have e : ((256 : Int) ^ s) = ((256 ^ s : Nat) : Int) := by simp
  have hd : n / 256 ^ s ≤ n := Nat.div_le_self _ _
  have e2 : Int.tdiv (n : Int) ((256 ^ s : Nat) : Int) = ((n / 256 ^ s : Nat) : Int) := by
    rw [Int.tdiv_eq_ediv_of_nonneg (by omega)]
    exact (Int.natCast_ediv _ _).symm
  rw [e]
  generalize hq : Int.tdiv (n : Int) ((256 ^ s : Nat) : Int) = q at e2 ⊢
  generalize n / 256 ^ s = d at e2 hd ⊢
  subst e2
  rw [wi64_in (by omega), Int.tmod_eq_emod_of_nonneg (by omega), wu8_of]
  omega
theorem byte_impl (n s : Nat) (h : n ≤ 1099511627775) (hs : s ≤ 5) : wu8 (shrI .i64 (n : Int) (wi64 (8 * (s : Int)))) = ((n / 256 ^ s % 256 : Nat) : Int) := by
  have e : ∀ s : Nat, s ≤ 5 → (2 : Int) ^ min (wi64 (8 * (s : Int))).toNat 64 = ((256 ^ s : Nat) : Int) := fun s hs => by
    refine pow_cases (P := fun s => (2 : Int) ^ min (wi64 (8 * (s : Int))).toNat 64 = ((256 ^ s : Nat) : Int)) ?_ ?_ ?_ ?_ ?_ ?_ s hs <;> decide
  unfold shrI
  show wu8 (Int.fdiv (n : Int) (2 ^ min (wi64 (8 * (s : Int))).toNat 64)) = _
  rw [e s hs, Int.fdiv_eq_ediv_of_nonneg _ (Int.natCast_nonneg _), ← Int.natCast_ediv, wu8_of]
  omega
theorem put_loop (n : Nat) (hn : n ≤ 1099511627775) (k : List Int → Res) : ∀ (s m : Nat) (out : List Int), s ≤ 6 → s < m → out.length + s ≤ 1000 → iter (spec_PutNum_l1_s (n : Int)) m (out, (s : Int) - 1) k = k (out ++ be n s) := by
  intro s
  induction s with
  | zero =>
    intro m out hs hm ho
    obtain ⟨m, rfl⟩ : ∃ e, m = e + 1 := ⟨m - 1, by omega⟩
    rw [iter_succ]
    show spec_PutNum_l1_r _ _ _ _ _ = _
    unfold spec_PutNum_l1_r
    dsimp only
    rw [decide_eq_false (by omega), cond_false]
    simp [be]
  | succ s ih =>
    intro m out hs hm ho
    obtain ⟨m, rfl⟩ : ∃ e, m = e + 1 := ⟨m - 1, by omega⟩
    rw [iter_succ]
    show spec_PutNum_l1_r _ _ _ _ _ = _
    unfold spec_PutNum_l1_r
    dsimp only
    have h2 : (0 : Int) < 256 ^ s := Int.pow_pos (by omega)
    rw [show ((s + 1 : Nat) : Int) - 1 = (s : Int) by omega, decide_eq_true (show (s : Int) ≥ 0 by omega), cond_true, pow_eq s (by omega), decide_eq_false (by omega), Bool.not_false, cond_true, lim_of (by unfold LIM; omega), cond_true, byte_spec n s hn (by omega), wi64_in (by omega)]
    have := ih m (out ++ [((n / 256 ^ s % 256 : Nat) : Int)]) (by omega) (by omega) (by rw [List.length_append, List.length_singleton]; omega)
    refine this.trans ?_
    rw [List.append_assoc]
    rfl
theorem num_loop (n : Nat) (hn : n ≤ 1099511627775) (k : List Int → Res) : ∀ (s m : Nat) (out : List Int), s ≤ 6 → s < m → out.length + s ≤ 1000000 → iter (impl_num_l0_s (n : Int)) m (out, (s : Int) - 1) k = k (out ++ be n s) := by
  intro s
  induction s with
  | zero =>
    intro m out hs hm ho
    obtain ⟨m, rfl⟩ : ∃ e, m = e + 1 := ⟨m - 1, by omega⟩
    rw [iter_succ]
    show impl_num_l0_r _ _ _ _ _ = _
    unfold impl_num_l0_r
    dsimp only
    rw [decide_eq_false (by omega), cond_false]
    simp [be]
  | succ s ih =>
    intro m out hs hm ho
    obtain ⟨m, rfl⟩ : ∃ e, m = e + 1 := ⟨m - 1, by omega⟩
    rw [iter_succ]
    show impl_num_l0_r _ _ _ _ _ = _
    unfold impl_num_l0_r
    dsimp only
    rw [show ((s + 1 : Nat) : Int) - 1 = (s : Int) by omega, decide_eq_true (show (s : Int) ≥ 0 by omega), cond_true, byte_impl n s hn (by omega), wi64_in (n := 8 * (s : Int)) (by omega), decide_eq_false (show ¬ 8 * (s : Int) < 0 by omega), Bool.not_false, cond_true, lim_of (by unfold LIM; omega), cond_true, wi64_in (by omega)]
    have := ih m (out ++ [((n / 256 ^ s % 256 : Nat) : Int)]) (by omega) (by omega) (by rw [List.length_append, List.length_singleton]; omega)
    refine this.trans ?_
    rw [List.append_assoc]
    rfl
theorem num_eq (b : List Int) (hb : b.length ≤ 100000) (n s : Nat) (hn : n ≤ 1099511627775) (hs : 1 ≤ s ∧ s ≤ 6) (k : List Int → Res) : impl_num b (n : Int) (s : Int) k = k (b ++ be n s) := by
  unfold impl_num impl_num_l0
  rw [wi64_in (by omega)]
  exact num_loop n hn k s FUEL b hs.2 (FUEL_lt (by omega)) (by omega)
theorem num1_eq (b : List Int) (hb : b.length ≤ 100000) (n : Int) (hn : 0 ≤ n ∧ n < 256) (k : List Int → Res) : impl_num b n 1 k = k (b ++ [n]) := by
  obtain ⟨m, rfl⟩ : ∃ m : Nat, n = (m : Int) := ⟨n.toNat, by omega⟩
  have := num_eq b hb m 1 (by omega) (by omega) k
  refine Eq.trans this ?_
  have e : be m 1 = [(m : Int)] := by
    simp only [be]
    rw [show (256 : Nat) ^ 0 = 1 by decide]
    congr 1
    omega
  rw [e]
theorem put6_eq (b : List Int) (hb : b.length ≤ 100) (n : Nat) (hn : n ≤ 1099511627775) (k : List Int → Bool → Res) : spec_PutNum b (n : Int) 6 k = k (b ++ be n 6) true := by
  unfold spec_PutNum spec_PutNum_p0
  have hp := pow_eq 6 (by omega) (fun (r : Int) => (fun (t : Bool) => bif t then k [] false else bif lim (0 + b.length) then spec_PutNum_l1 (n : Int) FUEL b (wi64 (6 - 1)) fun (out : List Int) => k out true else none) (decide ((n : Int) ≥ r)))
  rw [decide_eq_false (show ¬ (6 : Int) < 1 by omega), cond_false, decide_eq_false (show ¬ (6 : Int) > 6 by omega), cond_false, decide_eq_false (show ¬ (n : Int) < 0 by omega), cond_false]
  refine Eq.trans hp ?_
  rw [show ((256 : Int) ^ 6) = 281474976710656 by decide, decide_eq_false (show ¬ (n : Int) ≥ 281474976710656 by omega)]
  dsimp only
  rw [cond_false, lim_of (by unfold LIM; omega), cond_true]
  exact put_loop n hn (fun out => k out true) 6 FUEL b (by omega) (FUEL_lt (by omega)) (by omega)

theorem specVB_eq (v : V) (k : List Int → Bool → Res) : spec_ValBytes v k = bif valB v then k (wB v) true else k [] false := by
  unfold spec_ValBytes
  rw [specVal_eq]
  cases hv : valB v
  · rfl
  · rw [Bool.not_true, cond_false, cond_true]
    rcases valB_cases hv with rfl | ⟨n, hn, rfl⟩ | ⟨n, hn, rfl⟩ | ⟨s, hs, rfl⟩
    · rfl
    · dsimp only
      rw [show ((1 : Int) == 1) = true from rfl, cond_true]
      show k [wu8 1, wu8 n] true = k [1, n] true
      rw [wu8_small (by omega), wu8_small (by omega)]
    · dsimp only
      rw [show ((2 : Int) == 1) = false from rfl, cond_false, show ((2 : Int) == 2) = true from rfl, cond_true]
      show spec_ValBytes_p0 n 0 (decide (n < 0)) _ = k (2 :: (bif decide (n < 0) then 1 else 0) :: be n.natAbs 6) true
      unfold spec_ValBytes_p0
      by_cases h0 : n < 0
      · rw [decide_eq_true h0, cond_true, cond_true, wi64_in (by omega), show (0 : Int) - n = ((n.natAbs : Nat) : Int) by omega]
        dsimp only
        rw [put6_eq _ (by simp) _ (by omega)]
        rw [wu8_small (n := 2) (by omega)]
        rfl
      · rw [decide_eq_false h0, cond_false, cond_false]
        dsimp only
        have e : n = ((n.natAbs : Nat) : Int) := by omega
        rw [show spec_PutNum [wu8 2, 0] n 6 = spec_PutNum [wu8 2, 0] ((n.natAbs : Nat) : Int) 6 by rw [← e], put6_eq _ (by simp) _ (by omega), wu8_small (n := 2) (by omega)]
        rfl
    · dsimp only
      rw [show ((3 : Int) == 1) = false from rfl, cond_false, show ((3 : Int) == 2) = false from rfl, cond_false, show ((3 : Int) == 3) = true from rfl, cond_true]
      show _ = k (3 :: nI s.size :: toBytes s) true
      simp only [both_self]
      have := toBytes_len s
      rw [lim_of (by show s.size ≤ LIM; unfold LIM; omega), cond_true, lim_of (by unfold LIM; omega), cond_true]
      show k ([wu8 3, wu8 (nI s.size)] ++ toBytes s) true = _
      rw [wu8_small (by omega), wu8_small (by unfold nI; omega)]
      rfl
theorem implVB_eq (b : List Int) (hb : b.length ≤ 90000) (v : V) (hv : valB v = true) (k : List Int → Res) : impl_val b v k = k (b ++ wB v) := by
  unfold impl_val
  rcases valB_cases hv with rfl | ⟨n, hn, rfl⟩ | ⟨n, hn, rfl⟩ | ⟨s, hs, rfl⟩
  · rw [num1_eq b (by omega) _ (by simp)]
    rfl
  · rw [num1_eq b (by omega) _ (by simp)]
    show impl_num (b ++ [1]) n 1 _ = k (b ++ [1, n])
    rw [num1_eq _ (by rw [List.length_append, List.length_singleton]; omega) _ (by omega), List.append_assoc]
    rfl
  · rw [num1_eq b (by omega) _ (by simp)]
    show impl_flag (b ++ [2]) (decide (n < 0)) (fun r2 => impl_num r2 (mxI n (wi64 (0 - n))) 6 _) = k (b ++ (2 :: (bif decide (n < 0) then 1 else 0) :: be n.natAbs 6))
    have hmx : mxI n (wi64 (0 - n)) = ((n.natAbs : Nat) : Int) := by
      unfold mxI
      rw [wi64_in (by omega)]
      split <;> omega
    rw [hmx]
    have hf : ∀ (is : Bool) (K : List Int → Res), impl_flag (b ++ [2]) is K = K (b ++ [2] ++ [bif is then 1 else 0]) := fun is K => by
      unfold impl_flag
      cases is
      · rw [cond_false, lim_of (by rw [List.length_append, List.length_singleton]; unfold LIM; omega), cond_true]; rfl
      · rw [cond_true, lim_of (by rw [List.length_append, List.length_singleton]; unfold LIM; omega), cond_true]; rfl
    rw [hf]
    have := num_eq (b ++ [2] ++ [bif decide (n < 0) then 1 else 0]) (by simp; omega) n.natAbs 6 (by omega) (by omega) k
    refine Eq.trans this ?_
    rw [List.append_assoc, List.append_assoc]
    rfl
  · rw [num1_eq b (by omega) _ (by simp)]
    show impl_text (b ++ [3]) s _ = k (b ++ (3 :: nI s.size :: toBytes s))
    unfold impl_text
    have := toBytes_len s
    rw [num1_eq _ (by rw [List.length_append, List.length_singleton]; omega) _ (by unfold nI; omega), lim_of (by simp; unfold LIM; omega), cond_true, List.append_assoc, List.append_assoc]
    rfl
def okRow (l : List V) : Bool := decide (l.length ≤ 8) && l.all valB
theorem walk_rows : (l : List V) → (i : Nat) → (out : List Int) → walkL (fun _ out v => bif valB v then (.ok (out ++ wB v) : Except Unit (List Int)) else .error ()) i l out = bif l.all valB then .ok (out ++ l.flatMap wB) else .error ()
  | [], _, out => by simp [walkL]
  | v :: l, i, out => by
    simp only [walkL, List.all_cons]
    cases valB v
    · rfl
    · simp only [cond_true, Bool.true_and]
      rw [walk_rows l (i + 1), List.flatMap_cons, List.append_assoc]
theorem specRB_eq (l : List V) (h : l.length ≤ 9) (k : List Int → Bool → Res) : spec_RowBytes l k = bif okRow l then k (rowW l) true else k [] false := by
  unfold spec_RowBytes okRow
  by_cases h8 : l.length ≤ 8
  · rw [decide_eq_false (show ¬ nI l.length > 8 by unfold nI; omega), cond_false, decide_eq_true h8, Bool.true_and, wu8_small (by unfold nI; omega)]
    unfold spec_RowBytes_l0
    have := walk_loop l (fun i out => (out, i)) (fun _ out v => bif valB v then (.ok (out ++ wB v) : Except Unit (List Int)) else .error ()) (fun i out => out.length ≤ 1 + 32 * i) (step := spec_RowBytes_l0_s l (nI l.length)) ((fun (b : List Int) => k b true), (fun (_ : Unit) => k [] false)) (fun b => k b true) (fun _ => k [] false) [nI l.length] (by unfold LIM; omega) (by simp) (fun i out out' hi ho hf => by
      cases hv : valB l[i]
      · rw [hv] at hf; cases hf
      · rw [hv] at hf; cases hf
        have := wB_len hv
        rw [List.length_append]; omega) (fun i out rec hi ho => by
      show spec_RowBytes_l0_r _ _ _ _ _ _ _ = _
      unfold spec_RowBytes_l0_r
      dsimp only
      rw [nI_lt hi, cond_true, inb_nat hi, cond_true, nth_nat _ _ _ hi, specVB_eq, wi64_in (n := (i : Int) + 1) (by omega)]
      cases hv : valB l[i]
      · rfl
      · have := wB_len hv
        rw [cond_true, cond_true, Bool.not_true, cond_false, lim_of (by unfold LIM; omega), cond_true]) (fun out rec _ => by
      show spec_RowBytes_l0_r _ _ _ _ _ _ _ = _
      unfold spec_RowBytes_l0_r
      dsimp only
      rw [nI_ge, cond_false])
    refine this.trans ?_
    rw [walk_rows]
    cases l.all valB <;> rfl
  · rw [decide_eq_true (show nI l.length > 8 by unfold nI; omega), cond_true, decide_eq_false h8, Bool.false_and, cond_false]
theorem implRB_eq (l : List V) (h : l.length ≤ 9) (k : List Int → Bool → Res) : impl_RowBytes l k = bif okRow l then k (rowW l) true else k [] false := by
  unfold impl_RowBytes okRow impl_RowBytes_l0
  have := any_loop l (fun i => i) (fun v => !valB v) (step := impl_RowBytes_l0_s l (nI l.length)) ((fun (_ : Unit) => bif decide ((nI l.length) > 8) then k [] false else impl_vals [] l fun (r : List Int) => k r true), (fun (_ : Unit) => k [] false)) (bif decide ((nI l.length) > 8) then k [] false else impl_vals [] l fun (r : List Int) => k r true) (k [] false) (by unfold LIM; omega) (fun i rec hi => by
    show impl_RowBytes_l0_r _ _ _ _ _ _ = _
    unfold impl_RowBytes_l0_r
    rw [nI_lt hi, cond_true, inb_nat hi, cond_true, nth_nat _ _ _ hi, implVal_eq, wi64_in (n := (i : Int) + 1) (by omega)]) (fun rec => by
    show impl_RowBytes_l0_r _ _ _ _ _ _ = _
    unfold impl_RowBytes_l0_r
    rw [nI_ge, cond_false])
  refine this.trans ?_
  have hall : (l.any fun v => !valB v) = !l.all valB := by rw [List.all_eq_not_any_not]; simp
  rw [hall]
  cases ha : l.all valB
  · rw [Bool.not_false, cond_true, Bool.and_false, cond_false]
  · rw [Bool.not_true, cond_false, Bool.and_true]
    by_cases h8 : l.length ≤ 8
    · rw [decide_eq_false (show ¬ nI l.length > 8 by unfold nI; omega), cond_false, decide_eq_true h8, cond_true]
      unfold impl_vals
      rw [num1_eq [] (by simp) _ (by unfold nI; omega), List.nil_append]
      unfold impl_vals_l0
      have hav : ∀ v ∈ l, valB v = true := fun v hv => List.all_eq_true.1 ha v hv
      have hfl : ∀ i, (([nI l.length] : List Int) ++ (l.take i).flatMap wB).length ≤ 1000 := fun i => by
        have := flat_len (l.take i) (fun v hv => hav v (List.mem_of_mem_take hv))
        rw [List.length_take] at this
        rw [List.length_append, List.length_singleton]; omega
      refine flat_loop l (fun i out => (out, i)) wB 1000 [nI l.length] (step := impl_vals_l0_s l (nI l.length)) (fun b1 => k b1 true) (fun b1 => k b1 true) (by unfold LIM; omega) (fun i hi _ => hfl (i + 1)) (by simp) (fun i out rec hi ho hB => by
        show impl_vals_l0_r _ _ _ _ _ _ = _
        unfold impl_vals_l0_r
        dsimp only
        rw [nI_lt hi, cond_true, inb_nat hi, cond_true, nth_nat _ _ _ hi, implVB_eq _ (by omega) _ (hav _ (List.getElem_mem hi)), wi64_in (n := (i : Int) + 1) (by omega)]) (fun out rec => by
        show impl_vals_l0_r _ _ _ _ _ _ = _
        unfold impl_vals_l0_r
        dsimp only
        rw [nI_ge, cond_false])
    · rw [decide_eq_true (show nI l.length > 8 by unfold nI; omega), cond_true, decide_eq_false h8, cond_false]
end Go.PI.G
